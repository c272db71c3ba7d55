/- What the row rests on, part 2: a calculus of assertions, walks of functions over it, and plain laws. Conditions: none. -/
import Derived.Deep.QuietTactic
import Derived.BigQuiet
import Derived.WalkKit
import Derived.Test.YtimckjnnjakcoaaProg
import Derived.OrdersHeld
import Derived.Laws.BytesArg
import Derived.RangeFuncRecord
import Derived.TacticsIn
import Derived.Deep.Slices
import Derived.OpenShut
import Derived.ChangeArms
import Derived.SizedLaws
import Derived.ChangeSame
import Derived.Test.YtimckjnnjakcoaaRows
import Derived.Test.YtimckjnnjakcoaaMg1
set_option linter.unusedVariables false
set_option linter.unusedSimpArgs false
namespace Go.Vl
open Go Go.Proofs
section
variable {P : Program} {n : Nat} {ρ : Env} {A : SP} {dst : Option Tmp} {ty : TypeId} {pos : String} {after : Array Edge} {gd : Option (Nat × Bool)}
theorem o_quoN {t t' : TypeId} {x y : Operand} {a b : Nat} (hx : ev n ρ x = .int .i64 (a : Int)) (hy : ev n ρ y = .int .i64 (b : Int)) (h : 0 < b ∧ a ≤ 9223372036854775807) :
    OpV P n ρ A ⟨dst, .binOp .quo t x y t', ty, pos, after, gd⟩ (.int .i64 ((a / b : Nat) : Int)) := o_quoI hx hy (by omega)
theorem o_remN {t t' : TypeId} {x y : Operand} {k : IntKind} {a b : Nat} (hx : ev n ρ x = .int k (a : Int)) (hy : ev n ρ y = .int k (b : Int)) (h : 0 < b) :
    OpV P n ρ A ⟨dst, .binOp .rem t x y t', ty, pos, after, gd⟩ (.int k ((a % b : Nat) : Int)) := o_remI hx hy (by omega)
end
/-- What is seen of a line. -/
def seenL (l : LineS) : List Nat := l.st.getD (l.st.length - 1) []
def layL (k v : Nat) (l : LineS) : LineS := { l with st := l.st ++ [(seenL l).set k v] }
def onLine (f : LineS → LineS) (i : Nat) (s : DevS) : DevS := match s.ls[i]? with
  | some l => { s with ls := s.ls.set i (f l) }
  | none => s
def layS (at_ v : Nat) (s : DevS) : DevS := onLine (layL (at_ % 64 / 8) v) (at_ / 64) s
/-- There is room for so many contents more in every line. -/
def Room (k : Nat) (s : DevS) : Prop := ∀ l ∈ s.ls, l.st.length + k ≤ 2199023255552
theorem seenL_eq {l : LineS} (h : 0 < l.st.length) : seenL l = l.st[l.st.length - 1] := by unfold seenL; rw [getD_at (by omega)]
theorem seenL_mem {l : LineS} (h : WfL l) : seenL l ∈ l.st := by
  have := List.length_pos_iff.2 h.ne
  rw [seenL_eq this]; exact List.getElem_mem _
/-- What Store8 answers, and the device behind it. -/
def st8 (p : Int) (v : Nat) (s : DevS) : Int × DevS :=
  if rdy s.ls.length s.off p 8 ≠ 0 then (rdy s.ls.length s.off p 8, s) else if p % 8 ≠ 0 then (6, s) else (doneE (layS p.toNat v s), doneS (layS p.toNat v s))
theorem rdy0 {n : Nat} {off : Bool} {p m : Int} (h : rdy n off p m = 0) : off = false ∧ 0 ≤ p ∧ 0 ≤ m ∧ p + m ≤ (n : Int) * 64 := by
  unfold rdy at h
  split at h
  · exact absurd h (by omega)
  · rename_i ho
    split at h
    · exact absurd h (by omega)
    · exact ⟨by simpa using ho, by omega, by omega, by omega⟩
end Go.Vl

set_option linter.unusedVariables false
set_option linter.unusedSimpArgs false
namespace Go.Vl
open Go Go.Proofs
theorem cut_lt {b o c l k : Nat} (h : l < c) : cutAddr (some ⟨b, o, none⟩) c l k = some ⟨b, o + l * k, none⟩ := by
  unfold cutAddr; rw [if_neg (by omega)]; simp [addr_add]
def flushL (l : LineS) : LineS := { l with mark := (l.st.length : Int) - 1 }
def flushS (p : Nat) (s : DevS) : DevS := onLine flushL (p / 64) s
/-- What Flush answers, and the device behind it. -/
def fl1 (p : Int) (s : DevS) : Int × DevS :=
  if rdy s.ls.length s.off p 1 ≠ 0 then (rdy s.ls.length s.off p 1, s) else (doneE (flushS p.toNat s), doneS (flushS p.toNat s))
/-- The first lines are changed. -/
def mp (f : LineS → LineS) (i : Nat) (ls : List LineS) : List LineS := ls.mapIdx fun j l => if j < i then f l else l
theorem mp_length (f i ls) : (mp f i ls).length = ls.length := by simp [mp]
theorem mp_zero (f) (ls : List LineS) : mp f 0 ls = ls := by
  apply List.ext_getElem?
  intro j; simp [mp, List.getElem?_mapIdx]
theorem mp_set (f) {i : Nat} {ls : List LineS} (hi : i < ls.length) : (mp f i ls).set i (f ls[i]) = mp f (i + 1) ls := by
  apply List.ext_getElem?
  intro j
  by_cases hj : j = i
  · subst hj
    rw [List.getElem?_set_self (by rw [mp_length]; exact hi)]
    simp [mp, List.getElem?_mapIdx, hi]
  · rw [List.getElem?_set_ne (Ne.symm hj)]
    simp only [mp, List.getElem?_mapIdx]
    by_cases hlt : j < i
    · simp [hlt, show j < i + 1 by omega]
    · simp [hlt, show ¬ j < i + 1 by omega]
theorem mp_map (f) (ls : List LineS) : mp f ls.length ls = ls.map f := by
  apply List.ext_getElem?
  intro j
  simp only [mp, List.getElem?_mapIdx, List.getElem?_map]
  rcases Nat.lt_or_ge j ls.length with h | h
  · simp [h]
  · simp [h]
def fenceL (l : LineS) : LineS := if 0 ≤ l.mark then ⟨l.st.drop l.mark.toNat, -1⟩ else l
def fenceS (s : DevS) : DevS := { s with ls := s.ls.map fenceL }
/-- What Fence answers, and the device behind it. -/
def fe (s : DevS) : Int × DevS := if s.off then (5, s) else (doneE (fenceS s), doneS (fenceS s))
theorem rdy00 {n : Nat} {off : Bool} : rdy n off 0 0 = if off then 5 else 0 := by
  unfold rdy
  split
  · rfl
  · rw [if_neg (by omega)]
theorem Crash_f (F : SP) (d c : Nat) (s : DevS) (a : Option Addr) (keep : List Int) (hr : Rd F a (ints keep)) (hk : ∀ k ∈ keep, k ≤ 9223372036854775807) (hkl : keep.length ≤ 17592186044416) :
    Fn Try.prog 28 #[.pointer (some ⟨d, 0, none⟩), .slice a keep.length c] (F * Dev d s) (fun r B => r = .int .i64 (if s.off then 5 else if lowB keep then 2 else 0) ∧ B = F * Dev d (if s.off then s else if lowB keep then s else goesS keep s)) := by
  refine fn_enterW (args := [.pointer (some ⟨d, 0, none⟩), .slice a keep.length c]) Try.func28 rfl Try.ntmps28 (by simp) ?_
  refine tc_dev fun hw bl svs av kvs hsv hkv => ?_
  have hpos := hw.pos
  have htop := hw.top
  refine tc_seq ?_
  refine tc_reg ?_
  refine tl_v rfl (o_assign rfl) ?_
  refine tl_nil ?_
  refine q_then_n ?_
  refine tc_seq ?_
  refine tc_seq ?_
  refine tc_reg ?_
  refine tl_v rfl (o_move rfl) ?_
  refine tl_c rfl (o_call bd88 rfl (ready_f _ d bl s.ls.length s av dev_cells hpos htop 0 0 (by omega) (by omega))) ?_
  rintro _ _ ⟨rfl, rfl⟩
  refine tl_v rfl (o_assign rfl) ?_
  refine tl_nil ?_
  refine q_then_n ?_
  refine tc_seq ?_
  refine tc_reg ?_
  refine tl_v rfl (o_move rfl) ?_
  refine tl_v rfl (o_nei rfl rfl) ?_
  refine tl_nil ?_
  refine q_then_n ?_
  refine tc_cond rfl (fun h => ?_) (fun h => ?_)
  · rw [rdy00] at h
    have ho : s.off = true := by
      cases ho : s.off with
      | true => rfl
      | false => rw [ho] at h; simp at h
    refine tc_seq ?_
    refine tc_reg ?_
    refine tl_v rfl (o_move rfl) ?_
    refine tl_v rfl (o_assign rfl) ?_
    refine tl_nil ?_
    refine q_then_n ?_
    refine tc_ret ?_
    refine q_then_r ?_
    exact ⟨.int .i64 5, _, res1 rfl (by show Value.int .i64 (rdy _ _ _ _) = _; rw [rdy00, ho]; rfl), dev_back hw hsv hkv, by rw [ho]; rfl, by rw [ho]; rfl⟩
  · rw [rdy00] at h
    have ho : s.off = false := by
      cases ho : s.off with
      | false => rfl
      | true => rw [ho] at h; simp at h
    refine tc_skip ?_
    refine q_then_n ?_
    refine tc_seq ?_
    refine tc_seq ?_
    refine tc_reg ?_
    refine tl_v rfl (o_move rfl) ?_
    refine tl_c rfl (o_call bd91 rfl (low_f _ a c keep hr.left (by omega))) ?_
    rintro _ _ ⟨rfl, rfl⟩
    refine tl_nil ?_
    refine q_then_n ?_
    refine tc_cond rfl (fun h => ?_) (fun h => ?_)
    · try simp only [decide_eq_true_eq, decide_eq_false_iff_not, Bool.not_eq_true', Bool.not_eq_false', Option.isNone_some, Option.isNone_none, Bool.not_true, Bool.not_false] at h
      refine tc_seq ?_
      refine tc_reg ?_
      refine tl_v rfl (o_assign rfl) ?_
      refine tl_nil ?_
      refine q_then_n ?_
      refine tc_ret ?_
      refine q_then_r ?_
      exact ⟨.int .i64 2, _, res1 rfl rfl, dev_back hw hsv hkv, by rw [ho, h]; rfl, by rw [ho, h]; rfl⟩
    · try simp only [decide_eq_true_eq, decide_eq_false_iff_not, Bool.not_eq_true', Bool.not_eq_false', Option.isNone_some, Option.isNone_none, Bool.not_true, Bool.not_false] at h
      refine tc_skip ?_
      refine q_then_n ?_
      refine tc_seq ?_
      refine tc_reg ?_
      refine tl_v rfl (o_move rfl) ?_
      refine tl_v rfl (o_move rfl) ?_
      refine tl_pre (dev_back hw hsv hkv) ?_
      have hk2 : ∀ k ∈ keep, 0 ≤ k ∧ k ≤ 9223372036854775807 := fun k hm => ⟨by
        rcases Int.lt_or_le k 0 with h1 | h1
        · exfalso; unfold lowB at h; rw [List.any_eq_false] at h; exact h k hm (by simpa using h1)
        · exact h1, hk k hm⟩
      refine tl_c rfl (o_call bd92 rfl (goes_f F d c s a keep hr hk2 hkl)) ?_
      rintro _ _ ⟨rfl, rfl⟩
      refine tl_nil ?_
      refine q_then_n ?_
      refine tc_seq ?_
      refine tc_reg ?_
      refine tl_v rfl (o_assign rfl) ?_
      refine tl_nil ?_
      refine q_then_n ?_
      refine tc_ret ?_
      exact ⟨.int .i64 0, _, res1 rfl rfl, fun _ _ h => h, by rw [ho, h]; rfl, by rw [ho, h]; rfl⟩
end Go.Vl

set_option linter.unusedVariables false
set_option linter.unusedSimpArgs false
namespace Go.Vl
open Go Go.Proofs
/-- What is to be read of a device. -/
structure DevR (A : SP) (d bl : Nat) (svs : List Value) (av : Value) (s : DevS) : Prop where
  d : Cells A d 0 (dcs bl s.ls.length s av)
  b : Cells A bl 0 (lcs svs s.ls)
  len : svs.length = s.ls.length
  st : ∀ i (h : i < s.ls.length), ∃ a c, svs[i]? = some (.slice a s.ls[i].st.length c) ∧ s.ls[i].st.length ≤ c ∧ Rd A a (stc s.ls[i].st)
  wf : WfD s
theorem DevR.left {A X : SP} {d bl : Nat} {svs : List Value} {av : Value} {s : DevS} (h : DevR A d bl svs av s) : DevR (A * X) d bl svs av s :=
  ⟨h.d.left, h.b.left, h.len, fun i hi => by obtain ⟨a, c, h1, h2, h3⟩ := h.st i hi; exact ⟨a, c, h1, h2, h3.left⟩, h.wf⟩
theorem devR_of {F : SP} {d bl : Nat} {svs kvs : List Value} {av : Value} {s : DevS} (hw : WfD s) (hsv : svs.length = s.ls.length) {g : Gh} {w : World} (hs : sat g w (F * DevC d bl svs av kvs s)) : DevR (F * DevC d bl svs av kvs s) d bl svs av s :=
  ⟨dev_cells, cells_all devC_bl (lcs_length hsv), hsv, fun i hi => by
    obtain ⟨R, hf1, _⟩ := devC_focus (d := d) (bl := bl) (kvs := kvs) (av := av) (s := s) hsv hi
    obtain ⟨a, c, h1, h2, _, h3⟩ := sl_have' (hf1 F) hs
    exact ⟨a, c, by rw [List.getElem?_eq_getElem (by omega), h1], h2, h3⟩, hw⟩
/-- A call that only reads the device and makes something. -/
theorem fn_devR {P : Program} {f : FuncId} {args : Array Value} {F : SP} {d : Nat} {s : DevS} {Q : Value → SP → Prop}
    (h : WfD s → ∀ A bl svs av, DevR A d bl svs av s → Fn P f args A fun r B => ∃ X, B = A * X ∧ Q r X) :
    Fn P f args (F * Dev d s) fun r B => ∃ X, B = F * Dev d s * X ∧ Q r X := fun g w hs => by
  obtain ⟨hw, bl, svs, av, kvs, h1, h2, hs'⟩ := dev_iff.1 hs
  refine (h hw _ bl svs av (devR_of hw h1 hs') g w hs').mono ?_
  rintro e w' ⟨v, B, e1, ⟨X, rfl, hq⟩, hB⟩
  refine ⟨v, F * Dev d s * X, e1, ⟨X, rfl, hq⟩, ?_⟩
  rw [star_swap] at hB ⊢
  exact dev_back hw h1 h2 _ _ hB
theorem fn_devR0 {P : Program} {f : FuncId} {args : Array Value} {F : SP} {d : Nat} {s : DevS} {q : Value → Prop}
    (h : WfD s → ∀ A bl svs av, DevR A d bl svs av s → Fn P f args A fun r B => q r ∧ A = B) :
    Fn P f args (F * Dev d s) fun r B => q r ∧ F * Dev d s = B := fun g w hs => by
  obtain ⟨hw, bl, svs, av, kvs, h1, h2, hs'⟩ := dev_iff.1 hs
  refine (h hw _ bl svs av (devR_of hw h1 hs') g w hs').mono ?_
  rintro e w' ⟨v, B, e1, ⟨hq, rfl⟩, hB⟩
  exact ⟨v, F * Dev d s, e1, ⟨hq, rfl⟩, dev_back hw h1 h2 _ _ hB⟩
theorem seenR_f {A : SP} {d bl : Nat} {svs : List Value} {av : Value} {s : DevS} (h : DevR A d bl svs av s) {i : Nat} (hi : i < s.ls.length) :
    Fn Try.prog 89 #[.pointer (some ⟨bl, 0 + i * 2, none⟩)] A (fun r B => r = .agg (wds (seenL s.ls[i])).toArray ∧ A = B) := by
  obtain ⟨a, c, h1, h2, h3⟩ := h.st i hi
  have hwl := h.wf.line _ (List.getElem_mem hi)
  have hp := List.length_pos_iff.2 hwl.ne
  have hb := h.b (i * 2) (.slice a s.ls[i].st.length c) (by
    have := lcs_sv (vs := svs) (ls := s.ls) (i := i) h.len (by have := h.len; omega)
    rw [this]; rw [List.getElem?_eq_getElem (by have := h.len; omega)] at h1; exact h1)
  refine (seen_f A bl (0 + i * 2) c a s.ls[i].st hb h3 hwl.eight hp hwl.small).mono fun v B ⟨e, e'⟩ => ⟨?_, e'⟩
  rw [e, seenL_eq hp]
def img (ls : List LineS) : List Nat := ls.flatMap fun l => lb (seenL l)
/-- All bytes, as they are seen. -/
def imgS (s : DevS) : List Nat := img s.ls
theorem img_take {ls : List LineS} {i : Nat} (h : i < ls.length) : img (ls.take (i + 1)) = img (ls.take i) ++ lb (seenL ls[i]) := by
  unfold img; rw [List.take_succ_eq_append_getElem h, List.flatMap_append]; simp only [List.flatMap_cons, List.flatMap_nil, List.append_nil]
theorem seen8 {l : LineS} (h : WfL l) : (lb (seenL l)).length = 64 := by rw [lb_length, h.eight _ (seenL_mem h)]
theorem img_length {ls : List LineS} (h : ∀ l ∈ ls, WfL l) : (img ls).length = ls.length * 64 := by
  induction ls with
  | nil => rfl
  | cons l ls ih =>
    have := ih fun x hx => h x (by simp [hx])
    have h8 := seen8 (h l (by simp))
    simp only [img, List.flatMap_cons, List.length_append, List.length_cons] at *
    omega
theorem img_at : ∀ {ls : List LineS} {i : Nat} (_ : ∀ l ∈ ls, WfL l) (hi : i < ls.length), (img ls).drop (i * 64) = lb (seenL ls[i]) ++ img (ls.drop (i + 1))
  | l :: ls, 0, _, _ => by simp [img]
  | l :: ls, i + 1, h, hi => by
    have h8 := seen8 (h l (by simp))
    have e : (i + 1) * 64 = (lb (seenL l)).length + i * 64 := by omega
    rw [e]
    show ((lb (seenL l)) ++ img ls).drop _ = _
    rw [← List.drop_drop, List.drop_left]
    exact img_at (fun x hx => h x (by simp [hx])) (by simpa using hi)
theorem img_chunk {ls : List LineS} {q c : Nat} (h : ∀ l ∈ ls, WfL l) (hq : q / 64 < ls.length) (hc : c ≤ 64 - q % 64) :
    ((lb (seenL ls[q / 64])).drop (q % 64)).take c = ((img ls).drop q).take c := by
  have h8 := seen8 (h _ (List.getElem_mem hq))
  have e : q = q / 64 * 64 + q % 64 := by omega
  conv => rhs; rw [e]
  rw [← List.drop_drop, img_at h hq, List.drop_append_of_le_length (by omega), List.take_append_of_le_length (by rw [List.length_drop]; omega)]
theorem load_step {W : List Nat} {ls : List LineS} {p m k c : Nat} (h : ∀ l ∈ ls, WfL l) (hW : W = ((img ls).drop p).take m) (hp : p + m ≤ ls.length * 64) (hk : k < m) (hc : c = min (64 - (p + k) % 64) (m - k)) (hq : (p + k) / 64 < ls.length) (z : Value) :
    splice (bys (W.take k) ++ List.replicate (m - k) z) k ((bys ((lb (seenL ls[(p + k) / 64])).drop ((p + k) % 64))).take c) = bys (W.take (k + c)) ++ List.replicate (m - (k + c)) z := by
  have hl := img_length h
  have hWl : W.length = m := by rw [hW, List.length_take, List.length_drop]; omega
  have h8 := seen8 (h _ (List.getElem_mem hq))
  have e1 : (bys ((lb (seenL ls[(p + k) / 64])).drop ((p + k) % 64))).take c = bys ((W.drop k).take c) := by
    unfold bys
    rw [← List.map_take, img_chunk h hq (by omega), hW, List.drop_take, List.drop_drop, List.take_take]
    congr 2; omega
  rw [e1, splice_eq (by simp [bys_length, hWl]; omega)]
  have e2 : (bys (W.take k)).length = k := by rw [bys_length, List.length_take]; omega
  have e3 : (bys ((W.drop k).take c)).length = c := by rw [bys_length, List.length_take, List.length_drop]; omega
  rw [e3, List.take_left' e2, ← List.drop_drop, List.drop_left' e2, List.drop_replicate, List.take_add, bys_append]
  congr 2; omega
/-- Lists of bytes, each owned. -/
def Parts : List Value → List (List Nat) → SP
  | v :: vs, x :: xs => Parts vs xs * Sl 1 v x.length (bys x)
  | [], [] => emp
  | _, _ => pure_ False
theorem Image_f (A : SP) (d bl : Nat) (svs : List Value) (av : Value) (s : DevS) (hR : DevR A d bl svs av s) :
    Fn Try.prog 33 #[.pointer (some ⟨d, 0, none⟩)] (A) (fun r B => ∃ X, B = A * X ∧ X = Sl 1 r (s.ls.length * 64) (bys (imgS s))) := by
  refine fn_enterW (args := [.pointer (some ⟨d, 0, none⟩)]) Try.func33 rfl Try.ntmps33 (by simp) ?_
  have hpos := hR.wf.pos
  have htop := hR.wf.top
  refine tc_seq ?_
  refine tc_reg ?_
  refine tl_v rfl (o_assign rfl) ?_
  refine tl_nil ?_
  refine q_then_n ?_
  refine tc_seq ?_
  refine tc_seq ?_
  refine tc_reg ?_
  refine tl_v rfl (o_move rfl) ?_
  refine tl_c rfl (o_call bd93 rfl (none_f _ d bl s.ls.length s av hR.d hpos htop)) ?_
  rintro _ _ ⟨rfl, rfl⟩
  refine tl_nil ?_
  refine q_then_n ?_
  refine tc_cond rfl (fun h => ?_) (fun h => ?_)
  · (exfalso; first | (revert h; simp; done) | (revert h; simp; omega) | (simp at h; omega) | omega)
  · try simp only [decide_eq_true_eq, decide_eq_false_iff_not, Bool.not_eq_true', Bool.not_eq_false', Option.isNone_some, Option.isNone_none, Bool.not_true, Bool.not_false] at h
    refine tc_skip ?_
    refine q_then_n ?_
    refine tc_seq ?_
    refine tc_reg ?_
    refine tl_v rfl (o_move rfl) ?_
    refine tl_c rfl (o_call bd94 rfl (Size_f _ d bl s.ls.length s av hR.d hpos htop)) ?_
    rintro _ _ ⟨rfl, rfl⟩
    refine tl_x rfl (o_makeSlice (len := 0) (cap := s.ls.length * 64) Try.underlying28 sz5 by5 z5 rfl rfl (by show Value.int .i64 ((s.ls.length : Int) * 64) = _; congr 1) (by omega) (by omega) (by omega)) ?_
    rintro _ _ ⟨b9, rfl, rfl⟩
    refine tl_pre (fun _ _ h => sl_new (k := 1) (n := 0) (cap := s.ls.length * 64) (xs := []) h (by omega) (by simp) (by simp)) ?_
    refine tl_v rfl (o_assign rfl) ?_
    refine tl_nil ?_
    refine q_then_n ?_
    refine tc_seq ?_
    refine tc_seq ?_
    refine tc_reg ?_
    refine tl_v rfl (o_move rfl) ?_
    refine tl_v rfl (o_nilCheck rfl) ?_
    refine tl_v rfl (o_fieldAddr (o := 0) Try.underlying97 rfl rfl sz95 rfl) ?_
    refine tl_v rfl (o_loadC p95 rfl (hR.d 0 _ rfl).left) ?_
    refine tl_v rfl (o_len Try.underlying95 rfl) ?_
    refine tl_v rfl (o_move rfl) ?_
    refine tl_nil ?_
    refine q_then_n ?_
    refine tc_block ?_
    refine tc_loop (fun k ρ B => ∃ (i : Nat) (v : Value), i ≤ s.ls.length ∧ k = s.ls.length - i ∧ ρ 0 = .pointer (some ⟨d, 0, none⟩) ∧ ρ 3 = v ∧ ρ 14 = .int .i64 s.ls.length ∧ ρ 15 = .int .i64 i ∧ B = A * Sl 1 v (i * 64) (bys (img (s.ls.take i)))) (m := s.ls.length) ?_ ?_
    · exact ⟨0, .slice (some ⟨b9, 0, none⟩) 0 (s.ls.length * 64), by omega, rfl, rfl, rfl, rfl, rfl, rfl⟩
    · intro k ρ B hI
      obtain ⟨i, v, hi, rfl, h0, h3, h14, h15, rfl⟩ := hI
      refine tc_env (d := 0) h0 ?_
      refine tc_env (d := 3) h3 ?_
      refine tc_env (d := 14) h14 ?_
      refine tc_env (d := 15) h15 ?_
      refine tc_seq ?_
      refine tc_reg ?_
      refine tl_v rfl (o_lss rfl rfl) ?_
      refine tl_nil ?_
      refine q_then_n ?_
      refine tc_seq ?_
      refine tc_cond rfl (fun h => ?_) (fun h => ?_)
      · simp only [decide_eq_true_eq] at h
        have hi' : i < s.ls.length := by omega
        have hwl := hR.wf.line _ (List.getElem_mem hi')
        refine tc_skip ?_
        refine q_then_n ?_
        refine tc_seq ?_
        refine tc_block ?_
        refine tc_seq ?_
        refine tc_reg ?_
        refine tl_v rfl (o_move rfl) ?_
        refine tl_v rfl (o_assign rfl) ?_
        refine tl_nil ?_
        refine q_then_n ?_
        refine tc_reg ?_
        refine tl_v rfl (o_move rfl) ?_
        refine tl_v rfl (o_move rfl) ?_
        refine tl_v rfl (o_nilCheck rfl) ?_
        refine tl_v rfl (o_fieldAddr (o := 0) Try.underlying97 rfl rfl sz95 rfl) ?_
        refine tl_v rfl (o_loadC p95 rfl (hR.d 0 _ rfl).left) ?_
        refine tl_v rfl (o_move rfl) ?_
        refine tl_v rfl (o_indexAddrN Try.underlying95 sz150 rfl rfl (by omega)) ?_
        refine tl_c rfl (o_call bd89 rfl (seenR_f hR.left hi')) ?_
        rintro _ _ ⟨rfl, rfl⟩
        refine tl_c rfl (o_call bd90 rfl (bytes_f _ (seenL s.ls[i]) (hwl.eight _ (seenL_mem hwl)) (hwl.words _ (seenL_mem hwl)))) ?_
        rintro u26 _ ⟨_, rfl, rfl⟩
        refine tl_have (fun _ _ h => sl_have h) fun ⟨a2, c2, hv2, _, hl2, hrd2⟩ => ?_
        subst hv2
        refine tl_x rfl (o_append2 Try.underlying28 Try.underlying28 sz5 by5 z5 rfl (by decide) (by decide) rfl rfl (star_swap _ _ _) hrd2 hl2 (bys_all _) (by omega)) ?_
        rintro u27 _ rfl
        refine tl_pre (fun _ _ h => h.drop2) ?_
        refine tl_v rfl (o_assign rfl) ?_
        refine tl_nil ?_
        refine q_block_n (q_then_n ?_)
        refine tc_reg ?_
        refine tl_v rfl (by first | exact o_addI rfl rfl (by omega) | exact o_add rfl rfl) ?_
        refine tl_v rfl (o_move rfl) ?_
        refine tl_nil ?_
        refine q_then_n ?_
        exact ⟨_, by omega, i + 1, u27, by omega, rfl, rfl, rfl, rfl, rfl, by rw [img_take hi', bys_append, Nat.add_mul]⟩
      · try simp only [decide_eq_true_eq, decide_eq_false_iff_not, Bool.not_eq_true', Bool.not_eq_false', Option.isNone_some, Option.isNone_none, Bool.not_true, Bool.not_false] at h
        refine tc_exit ?_
        refine q_then_e (q_then_e (q_block_x (q_then_n ?_)))
        refine tc_seq ?_
        refine tc_reg ?_
        refine tl_v rfl (o_move rfl) ?_
        refine tl_v rfl (o_assign rfl) ?_
        refine tl_nil ?_
        refine q_then_n ?_
        refine tc_ret ?_
        obtain rfl : i = s.ls.length := by omega
        rw [List.take_length]
        exact ⟨v, _, res1 rfl rfl, fun _ _ h => h, _, rfl, rfl⟩
theorem LoadNo_f (A : SP) (d bl : Nat) (svs : List Value) (av : Value) (s : DevS) (hR : DevR A d bl svs av s) (p m : Int) (hp : -9223372036854775808 ≤ p ∧ p ≤ 9223372036854775807) (hm : -9223372036854775808 ≤ m ∧ m ≤ 9223372036854775807) (hno : rdy s.ls.length s.off p m ≠ 0) :
    Fn Try.prog 27 #[.pointer (some ⟨d, 0, none⟩), .int .i64 p, .int .i64 m] (A) (fun r B => r = .tuple #[.slice none 0 0, .int .i64 (rdy s.ls.length s.off p m)] ∧ A = B) := by
  refine fn_enter (args := [.pointer (some ⟨d, 0, none⟩), .int .i64 p, .int .i64 m]) Try.func27 rfl Try.ntmps27 (by simp) ?_
  refine tc_seq ?_
  refine tc_reg ?_
  refine tl_v rfl (o_assign rfl) ?_
  refine tl_v rfl (o_assign rfl) ?_
  refine tl_nil ?_
  refine q_then_n ?_
  refine tc_seq ?_
  refine tc_seq ?_
  refine tc_reg ?_
  refine tl_v rfl (o_move rfl) ?_
  refine tl_v rfl (o_move rfl) ?_
  refine tl_v rfl (o_move rfl) ?_
  refine tl_c rfl (o_call bd88 rfl (ready_f _ d bl s.ls.length s av hR.d hR.wf.pos hR.wf.top p m hp hm)) ?_
  rintro _ _ ⟨rfl, rfl⟩
  refine tl_v rfl (o_assign rfl) ?_
  refine tl_nil ?_
  refine q_then_n ?_
  refine tc_seq ?_
  refine tc_reg ?_
  refine tl_v rfl (o_move rfl) ?_
  refine tl_v rfl (o_nei rfl rfl) ?_
  refine tl_nil ?_
  refine q_then_n ?_
  refine tc_cond rfl (fun h => ?_) (fun h => ?_)
  · try simp only [decide_eq_true_eq, decide_eq_false_iff_not, Bool.not_eq_true', Bool.not_eq_false', Option.isNone_some, Option.isNone_none, Bool.not_true, Bool.not_false] at h
    refine tc_seq ?_
    refine tc_reg ?_
    refine tl_v rfl (o_move rfl) ?_
    refine tl_v rfl (o_assign rfl) ?_
    refine tl_v rfl (o_assign rfl) ?_
    refine tl_nil ?_
    refine q_then_n ?_
    refine tc_ret ?_
    refine q_then_r ?_
    exact ⟨.tuple #[.slice none 0 0, .int .i64 (rdy s.ls.length s.off p m)], res2 rfl rfl rfl, rfl, rfl⟩
  · exfalso; simp [hno] at h
theorem Load_f (A : SP) (d bl : Nat) (svs : List Value) (av : Value) (s : DevS) (p m : Nat) (W : List Nat) (hR : DevR A d bl svs av s) (hoff : s.off = false) (hpm : p + m ≤ s.ls.length * 64) (hW : W = ((imgS s).drop p).take m) :
    Fn Try.prog 27 #[.pointer (some ⟨d, 0, none⟩), .int .i64 (p : Nat), .int .i64 (m : Nat)] (A) (fun r B => ∃ X, B = A * X ∧ ∃ u, r = .tuple #[u, .int .i64 0] ∧ X = Sl 1 u m (bys W)) := by
  refine fn_enterW (args := [.pointer (some ⟨d, 0, none⟩), .int .i64 (p : Nat), .int .i64 (m : Nat)]) Try.func27 rfl Try.ntmps27 (by simp) ?_
  have hpos := hR.wf.pos
  have htop := hR.wf.top
  have hok : rdy s.ls.length s.off p m = 0 := by unfold rdy; rw [hoff, if_neg (by simp), if_neg (by omega)]
  have hWl : W.length = m := by rw [hW, List.length_take, List.length_drop, imgS, img_length hR.wf.line]; omega
  refine tc_seq ?_
  refine tc_reg ?_
  refine tl_v rfl (o_assign rfl) ?_
  refine tl_v rfl (o_assign rfl) ?_
  refine tl_nil ?_
  refine q_then_n ?_
  refine tc_seq ?_
  refine tc_seq ?_
  refine tc_reg ?_
  refine tl_v rfl (o_move rfl) ?_
  refine tl_v rfl (o_move rfl) ?_
  refine tl_v rfl (o_move rfl) ?_
  refine tl_c rfl (o_call bd88 rfl (ready_f _ d bl s.ls.length s av hR.d hR.wf.pos hR.wf.top p m (by omega) (by omega))) ?_
  rintro _ _ ⟨rfl, rfl⟩
  refine tl_v rfl (o_assign rfl) ?_
  refine tl_nil ?_
  refine q_then_n ?_
  refine tc_seq ?_
  refine tc_reg ?_
  refine tl_v rfl (o_move rfl) ?_
  refine tl_v rfl (o_nei rfl rfl) ?_
  refine tl_nil ?_
  refine q_then_n ?_
  refine tc_cond rfl (fun h => ?_) (fun h => ?_)
  · exfalso; simp [hok] at h
  · try simp only [decide_eq_true_eq, decide_eq_false_iff_not, Bool.not_eq_true', Bool.not_eq_false', Option.isNone_some, Option.isNone_none, Bool.not_true, Bool.not_false] at h
    refine tc_skip ?_
    refine q_then_n ?_
    refine tc_seq ?_
    refine tc_reg ?_
    refine tl_v rfl (o_move rfl) ?_
    refine tl_x rfl (o_makeSlice (len := m) (cap := m) Try.underlying28 sz5 by5 z5 rfl rfl rfl (by omega) (by omega) (by omega)) ?_
    rintro _ _ ⟨b21, rfl, rfl⟩
    refine tl_v rfl (o_assign rfl) ?_
    refine tl_nil ?_
    refine q_then_n ?_
    refine tc_seq ?_
    refine tc_seq ?_
    refine tc_reg ?_
    refine tl_v rfl (o_assign rfl) ?_
    refine tl_nil ?_
    refine q_then_n ?_
    refine tc_block ?_
    refine tc_loop (fun j ρ B => ∃ (k : Nat), k ≤ m ∧ j = m - k ∧ ρ 0 = .pointer (some ⟨d, 0, none⟩) ∧ ρ 1 = .int .i64 (p : Nat) ∧ ρ 2 = .int .i64 (m : Nat) ∧ ρ 9 = .slice (some ⟨b21, 0, none⟩) m m ∧ ρ 10 = .int .i64 (k : Nat) ∧ B = A * pt b21 (cl (bys (W.take k) ++ List.replicate (m - k) (.int .u8 0)) 5)) (m := m) ?_ ?_
    · exact ⟨0, by omega, rfl, rfl, rfl, rfl, rfl, rfl, rfl⟩
    · intro k ρ B hI
      obtain ⟨k, hk, rfl, h0, h1, h2, h9, h10, rfl⟩ := hI
      refine tc_env (d := 0) h0 ?_
      refine tc_env (d := 1) h1 ?_
      refine tc_env (d := 2) h2 ?_
      refine tc_env (d := 9) h9 ?_
      refine tc_env (d := 10) h10 ?_
      refine tc_seq ?_
      refine tc_seq ?_
      refine tc_reg ?_
      refine tl_v rfl (o_move rfl) ?_
      refine tl_v rfl (o_move rfl) ?_
      refine tl_v rfl (o_lss rfl rfl) ?_
      refine tl_nil ?_
      refine q_then_n ?_
      refine tc_cond rfl (fun h => ?_) (fun h => ?_)
      · simp only [decide_eq_true_eq] at h
        have hk' : k < m := by omega
        have hq : (p + k) / 64 < s.ls.length := by omega
        have hwl := hR.wf.line _ (List.getElem_mem hq)
        have h64 := seen8 hwl
        refine tc_skip ?_
        refine q_then_n ?_
        refine tc_block ?_
        refine tc_seq ?_
        refine tc_reg ?_
        refine tl_v rfl (o_move rfl) ?_
        refine tl_v rfl (o_move rfl) ?_
        refine tl_v rfl (by first | exact o_addI rfl rfl (by omega) | exact o_add rfl rfl) ?_
        refine tl_env (d := 27) (v := .int .i64 ((p + k : Nat) : Int)) rfl ?_
        refine tl_v rfl (o_assign rfl) ?_
        refine tl_nil ?_
        refine q_then_n ?_
        refine tc_seq ?_
        refine tc_reg ?_
        refine tl_v rfl (o_move rfl) ?_
        refine tl_v rfl (o_nilCheck rfl) ?_
        refine tl_v rfl (o_fieldAddr (o := 0) Try.underlying97 rfl rfl sz95 rfl) ?_
        refine tl_v rfl (o_loadC p95 rfl (hR.d 0 _ rfl).left) ?_
        refine tl_v rfl (o_move rfl) ?_
        refine tl_v rfl (o_quoN (a := p + k) (b := 64) rfl rfl (by omega)) ?_
        refine tl_v rfl (o_indexAddrN (j := (p + k) / 64) Try.underlying95 sz150 rfl rfl hq) ?_
        refine tl_c rfl (o_call bd89 rfl (seenR_f hR.left hq)) ?_
        rintro _ _ ⟨rfl, rfl⟩
        refine tl_c rfl (o_call bd90 rfl (bytes_f _ (seenL s.ls[(p + k) / 64]) (hwl.eight _ (seenL_mem hwl)) (hwl.words _ (seenL_mem hwl)))) ?_
        rintro u36 _ ⟨_, rfl, rfl⟩
        refine tl_have (fun _ _ h => sl_have h) fun ⟨a2, c2, hv2, hnc2, hl2, hrd2⟩ => ?_
        subst hv2
        refine tl_v rfl (o_assign rfl) ?_
        refine tl_nil ?_
        refine q_then_n ?_
        refine tc_rega mo ?_
        show TA _ _ _ _ 11 #[false, false, false, false, false, false, false, false, false, false, false] _ _
        refine ta_pure (i := 0) (listed' := #[true, false, false, false, false, false, false, false, false, false, false]) rfl (by kernel_rfl) (by kernel_rfl) (by kernel_rfl) rfl rfl (o_move rfl) ?_
        refine ta_pure (i := 1) (listed' := #[true, true, false, false, false, false, false, false, false, false, false]) rfl (by kernel_rfl) (by kernel_rfl) (by kernel_rfl) rfl rfl (o_move rfl) ?_
        refine ta_pure (i := 2) (listed' := #[true, true, true, false, false, false, false, false, false, false, false]) rfl (by kernel_rfl) (by kernel_rfl) (by kernel_rfl) rfl rfl (o_move rfl) ?_
        refine ta_pure (i := 3) (listed' := #[true, true, true, true, false, false, false, false, false, false, false]) rfl (by kernel_rfl) (by kernel_rfl) (by kernel_rfl) rfl rfl (o_slice (l := k) (h := m) Try.underlying28 sz5 rfl (bnd_nat (r := k) rfl) bnd_none (by omega) (by omega)) ?_
        refine ta_pure (i := 4) (listed' := #[true, true, true, true, true, false, false, false, false, false, false]) rfl (by kernel_rfl) (by kernel_rfl) (by kernel_rfl) rfl rfl (o_move rfl) ?_
        refine ta_pure (i := 5) (listed' := #[true, true, true, true, true, true, false, false, false, false, false]) rfl (by kernel_rfl) (by kernel_rfl) (by kernel_rfl) rfl rfl (o_move rfl) ?_
        refine ta_pure (i := 6) (listed' := #[true, true, true, true, true, true, true, false, false, false, false]) rfl (by kernel_rfl) (by kernel_rfl) (by kernel_rfl) rfl rfl (o_remN (a := p + k) (b := 64) rfl rfl (by omega)) ?_
        refine ta_pure (i := 7) (listed' := #[true, true, true, true, true, true, true, true, false, false, false]) rfl (by kernel_rfl) (by kernel_rfl) (by kernel_rfl) rfl rfl (o_slice (l := (p + k) % 64) (h := 64) Try.underlying28 sz5 rfl (bnd_nat (r := (p + k) % 64) rfl) bnd_none (by omega) (by omega)) ?_
        obtain ⟨b2, o2, rfl, hcs2⟩ := hrd2.some (by rw [bys_length]; omega)
        have hlt2 : (p + k) % 64 < c2 := by omega
        have hsub : Rd (A * pt b21 (cl (bys (W.take k) ++ List.replicate (m - k) (.int .u8 0)) 5) * Sl 1 (.slice (some ⟨b2, o2, none⟩) 64 c2) 64 (bys (lb (seenL s.ls[(p + k) / 64])))) (cutAddr (some ⟨b2, o2, none⟩) c2 ((p + k) % 64) 1) (bys ((lb (seenL s.ls[(p + k) / 64])).drop ((p + k) % 64))) := by
          rw [cut_lt hlt2]
          refine rd_cells (hcs2.sub ((p + k) % 64 * 1) (64 - (p + k) % 64) ?_)
          unfold bys
          rw [Nat.mul_one, List.map_drop, List.take_of_length_le]
          rw [List.length_drop, List.length_map]; omega
        refine ta_one (i := 8) (by kernel_rfl) ?_
        refine oa_x (i := 8) (listed' := #[true, true, true, true, true, true, true, true, true, false, false]) rfl rfl rfl (o_copy (b := b21) (off := k) (dl := m - k) (dc := m - k) (m := min (64 - (p + k) % 64) (m - k)) (l' := bys (W.take (k + min (64 - (p + k) % 64) (m - k))) ++ List.replicate (m - (k + min (64 - (p + k) % 64) (m - k))) (.int .u8 0)) Try.underlying28 sz5 (by show Value.slice (cutAddr (some ⟨b21, 0, none⟩) m k 1) (m - k) (m - k) = _; rw [cut_lt hk', Nat.zero_add, Nat.mul_one]) rfl hsub (by rw [bys_length, List.length_drop]; omega) rfl bys_oneC (by rw [List.length_append, bys_length, List.length_take, List.length_replicate]; omega) (load_step hR.wf.line hW hpm hk' rfl hq _) (upd_left upd_here)) ?_
        rintro _ _ ⟨rfl, rfl⟩
        refine ta_pre (fun _ _ h => h.left) ?_
        refine ta_pure (i := 9) (listed' := #[true, true, true, true, true, true, true, true, true, true, false]) rfl (by kernel_rfl) (by kernel_rfl) (by kernel_rfl) rfl rfl (by first | exact o_addI rfl rfl (by omega) | exact o_add rfl rfl) ?_
        refine ta_pure (i := 10) (listed' := #[true, true, true, true, true, true, true, true, true, true, true]) rfl (by kernel_rfl) (by kernel_rfl) (by kernel_rfl) rfl rfl (o_assign rfl) ?_
        refine ta_done (by kernel_rfl) ?_
        refine q_block_n (q_then_n ?_)
        exact ⟨_, by omega, k + min (64 - (p + k) % 64) (m - k), by omega, rfl, rfl, rfl, rfl, rfl, rfl, rfl⟩
      · try simp only [decide_eq_true_eq, decide_eq_false_iff_not, Bool.not_eq_true', Bool.not_eq_false', Option.isNone_some, Option.isNone_none, Bool.not_true, Bool.not_false] at h
        refine tc_exit ?_
        refine q_then_e (q_then_e (q_block_x (q_then_n ?_)))
        refine tc_seq ?_
        refine tc_reg ?_
        refine tl_v rfl (o_move rfl) ?_
        refine tl_v rfl (o_assign rfl) ?_
        refine tl_v rfl (o_assign rfl) ?_
        refine tl_nil ?_
        refine q_then_n ?_
        refine tc_ret ?_
        obtain rfl : k = m := by omega
        rw [List.take_of_length_le (by omega), Nat.sub_self]
        exact ⟨.tuple #[.slice (some ⟨b21, 0, none⟩) k k, .int .i64 0], _, res2 rfl rfl rfl, fun _ _ h => sl_new (k := 1) (n := k) (cap := k) (xs := bys W) h (by omega) (by simp [bys_length, hWl]) (List.take_of_length_le (by simp [bys_length, hWl]) |>.trans (by simp)), _, rfl, _, rfl, rfl⟩
end Go.Vl

set_option linter.unusedVariables false
set_option linter.unusedSimpArgs false
namespace Go.Vl
open Go Go.Proofs
/-- What Contents tells. -/
def ctS (i : Nat) (s : DevS) : List (List Nat) := (s.ls.getD i ⟨[], 0⟩).st.map lb
end Go.Vl

set_option linter.unusedVariables false
set_option linter.unusedSimpArgs false
namespace Go.Vl
open Go Go.Proofs
def reps (zl : List Value) : Nat → List Value
  | 0 => []
  | n + 1 => zl ++ reps zl n
theorem reps_length (zl : List Value) : ∀ n, (reps zl n).length = n * zl.length
  | 0 => by simp [reps]
  | n + 1 => by rw [reps, List.length_append, reps_length zl n, Nat.add_mul]; omega
theorem reps_at (zl : List Value) (hk : 0 < zl.length) : ∀ (n j : Nat), j < n * zl.length → (reps zl n)[j]? = zl[j % zl.length]?
  | 0, j, h => by omega
  | n + 1, j, h => by
    rw [reps]
    rcases Nat.lt_or_ge j zl.length with h1 | h1
    · rw [List.getElem?_append_left h1, Nat.mod_eq_of_lt h1]
    · rw [List.getElem?_append_right h1, reps_at zl hk n (j - zl.length) (by rw [Nat.add_mul] at h; omega), Nat.mod_eq_sub_mod h1]
section
variable {P : Program} {n : Nat} {ρ : Env} {A : SP} {dst : Option Tmp} {ty : TypeId} {pos : String} {after : Array Edge} {gd : Option (Nat × Bool)}
theorem o_makeSliceK {t e : TypeId} {x y : Operand} {len cap k : Nat} {bytes : Nat} {k1 k2 : IntKind} {zl : List Value} (hu : P.underlying t = some (.slice e)) (hk : szE P e = some k) (hb : bytesE P e = some bytes) (hz : zeroE P e = some (.agg zl.toArray)) (hzl : zl.length = k) (hk0 : 0 < k)
    (hx : ev n ρ x = .int k1 len) (hy : ev n ρ y = .int k2 cap) (h1 : len ≤ cap) (h2 : cap * bytes ≤ 140737488355328) (h3 : cap ≤ 140737488355328) (h4 : 0 < cap) :
    OpX P n ρ A ⟨dst, .makeSlice t x y, ty, pos, after, gd⟩ (NewS A (reps zl cap) e len cap) := fun g w hs => by
  refine ⟨_, w.alloc (cl (reps zl cap) e), _, ?_, hs.alloc _, w.heap.size, rfl, rfl⟩
  have w1 : IntKind.i64.wrap (len : Int) = len := by rw [IntWalk.i64_in _ (by omega)]
  have w2 : IntKind.i64.wrap (cap : Int) = cap := by rw [IntWalk.i64_in _ (by omega)]
  obtain ⟨i, hi, hib⟩ := run_bytes (w := w) hb
  have p47 : (2 : Nat) ^ 47 = 140737488355328 := by decide
  have p48 : (2 : Int) ^ 48 = 281474976710656 := by decide
  simp only [execOp, hx, hy]
  rw [run_bind (w' := w.alloc (cl (reps zl cap) e)) (a := .slice (some ⟨w.heap.size, 0, none⟩) len cap)]
  · rfl
  unfold Instr.makeSlice
  rw [run_bind (run_und hu)]
  simp only []
  rw [run_bind (w' := w) (a := (len : Int)) (by rfl), run_bind (w' := w) (a := (cap : Int)) (by rfl), run_bind hi]
  simp only [w1, w2, hib, p48]
  have hcb : (bytes : Int) * (cap : Int) ≤ 140737488355328 := by
    have : (bytes : Int) * (cap : Int) = ((cap * bytes : Nat) : Int) := by rw [Nat.mul_comm]; simp
    rw [this]; omega
  rw [if_neg (by simp; omega)]
  have ask : (askRoom (((cap : Nat) : Int).toNat * bytes)).run P w = .ok () w := by
    unfold askRoom roomBytes
    rw [p47, if_neg (by simp; omega)]; rfl
  rw [run_bind ask, run_bind (run_size hk)]
  have h0 : cap * k ≠ 0 := Nat.mul_ne_zero (by omega) (by omega)
  simp only [Int.toNat_natCast, h0, if_false]
  rw [run_bind (run_zeroV hz)]
  have hrow : ((Array.range (cap * k)).map fun x => (Value.agg zl.toArray).cells[x % (Value.agg zl.toArray).cells.size]!) = (reps zl cap).toArray := by
    simp only [Value.cells]
    apply Array.ext'
    rw [Array.toList_map]
    apply List.ext_getElem?
    intro j
    simp only [Array.toList_range, List.getElem?_map, List.size_toArray]
    subst hzl
    rcases Nat.lt_or_ge j (cap * zl.length) with h | h
    · rw [reps_at zl hk0 cap j h]
      have hm : j % zl.length < zl.length := Nat.mod_lt _ hk0
      simp [h, hm]
    · rw [List.getElem?_eq_none (by simpa using h), List.getElem?_eq_none (by rw [reps_length]; exact h)]; rfl
  show (do let a ← newRow e ((Array.range (cap * k)).map fun x => (Value.agg zl.toArray).cells[x % (Value.agg zl.toArray).cells.size]!); pure (Value.slice (some a) ((len : Nat) : Int).toNat ((cap : Nat) : Int).toNat) : Sem Value).run P w = _
  rw [hrow, run_bind run_newRow]
  simp [pure, Int.toNat_natCast]
end
/-- May a device have that size? -/
def fitsB (p : Int) : Bool := decide (64 ≤ p ∧ p ≤ 4194304 ∧ p % 64 = 0)
def blank (n : Nat) : DevS := ⟨List.replicate n ⟨[], 0⟩, 0, [], 0, false⟩
def zline : LineS := ⟨[List.replicate 8 0], -1⟩
/-- A device of bytes 0. -/
def newS (n : Nat) : DevS := ⟨List.replicate n zline, 0, [], 0, false⟩
theorem zline_wf : WfL zline := ⟨by simp [zline], by simp [zline, Eight], by simp [zline], by simp [zline], by simp [zline], by simp [zline]⟩
theorem newS_wf {n : Nat} (h : 0 < n) (h2 : n ≤ 65536) : WfD (newS n) := ⟨by simpa [newS] using h, by simpa [newS] using h2, fun l hl => by
  simp only [newS, List.mem_replicate] at hl; rw [hl.2]; exact zline_wf, by simp [newS], by simp [newS], by simp [newS]⟩
theorem lcs_blank : ∀ n, lcs (List.replicate n (.slice none 0 0)) (List.replicate n ⟨[], 0⟩) = reps [.slice none 0 0, .int .i64 0] n
  | 0 => rfl
  | n + 1 => by simp only [List.replicate_succ, lcs, reps, List.cons_append, List.nil_append]; rw [lcs_blank n]
theorem linesR_blank : ∀ (n : Nat) {R : SP} {g : Gh} {w : World}, sat g w R → sat g w (R * LinesR (List.replicate n (.slice none 0 0)) (List.replicate n ⟨[], 0⟩))
  | 0, R, g, w, h => by show sat g w (R * emp); rw [star_emp]; exact h
  | n + 1, R, g, w, h => by
    simp only [List.replicate_succ, LinesR]
    rw [← star_assoc]
    exact sl_nil (k := 8) (linesR_blank n h)
theorem blank_dev {F : SP} {d bl n : Nat} {g : Gh} {w : World} (hs : sat g w (F * pt bl (cl (reps [.slice none 0 0, .int .i64 0] n) 150) * pt d (cl [.slice (some ⟨bl, 0, none⟩) n n, .int .i64 0, .slice none 0 0, .int .i64 0, .bool false] 97))) :
    sat g w (F * DevC d bl (List.replicate n (.slice none 0 0)) (.slice none 0 0) [] (blank n)) := by
  rw [devC_eq]
  unfold ArmsR
  have h1 := sl_nil (k := 2) (linesR_blank n hs)
  rw [← lcs_blank] at h1
  refine h1.perm ?_
  simp only [blank, dcs, List.length_replicate, acs, KeepsR, List.length_nil, star_emp]
  ac_rfl
theorem mp_blank (n : Nat) : mp (fun _ => zline) n (List.replicate n ⟨[], 0⟩) = (newS n).ls := by
  have := mp_map (fun _ => zline) (List.replicate n ⟨[], 0⟩)
  rw [List.length_replicate] at this
  rw [this]; simp [newS]
theorem fits_f (A : SP) (p : Int) (hp : -9223372036854775808 ≤ p ∧ p ≤ 9223372036854775807) :
    Fn Try.prog 117 #[.int .i64 p] (A) (fun r B => r = .bool (fitsB p) ∧ A = B) := by
  refine fn_enter (args := [.int .i64 p]) Try.func117 rfl Try.ntmps117 (by simp) ?_
  refine tc_seq ?_
  refine tc_reg ?_
  refine tl_v rfl (o_assign rfl) ?_
  refine tl_nil ?_
  refine q_then_n ?_
  refine tc_seq ?_
  refine tc_reg ?_
  refine tl_v rfl (o_move rfl) ?_
  refine tl_v rfl (o_geq rfl rfl) ?_
  refine tl_v rfl (o_move rfl) ?_
  refine tl_bool (d := 5) rfl (fun h => ?_) (fun h => ?_)
  · try simp only [decide_eq_true_eq, decide_eq_false_iff_not, Bool.not_eq_true', Bool.not_eq_false', Option.isNone_some, Option.isNone_none, Bool.not_true, Bool.not_false] at h
    refine tl_v rfl (o_move rfl) ?_
    refine tl_v rfl (o_leq rfl rfl) ?_
    refine tl_v rfl (by first | exact o_pick_t rfl rfl | exact o_pick_f rfl rfl | exact o_pick rfl rfl) ?_
    refine tl_v rfl (o_move rfl) ?_
    refine tl_bool (d := 9) rfl (fun h => ?_) (fun h => ?_)
    · try simp only [decide_eq_true_eq, decide_eq_false_iff_not, Bool.not_eq_true', Bool.not_eq_false', Option.isNone_some, Option.isNone_none, Bool.not_true, Bool.not_false] at h
      refine tl_v rfl (o_move rfl) ?_
      refine tl_v rfl (o_remI rfl rfl (by omega)) ?_
      refine tl_v rfl (o_eqi rfl rfl) ?_
      refine tl_v rfl (by first | exact o_pick_t rfl rfl | exact o_pick_f rfl rfl | exact o_pick rfl rfl) ?_
      refine tl_v rfl (o_assign rfl) ?_
      refine tl_nil ?_
      refine q_then_n ?_
      refine tc_ret ?_
      exact ⟨.bool (decide (p % 64 = 0)), res1 rfl rfl, by unfold fitsB; congr 1; rw [decide_eq_decide]; omega, rfl⟩
    · try simp only [decide_eq_true_eq, decide_eq_false_iff_not, Bool.not_eq_true', Bool.not_eq_false', Option.isNone_some, Option.isNone_none, Bool.not_true, Bool.not_false] at h
      refine tl_skip rfl ?_
      refine tl_skip rfl ?_
      refine tl_skip rfl ?_
      refine tl_v rfl (by first | exact o_pick_t rfl rfl | exact o_pick_f rfl rfl | exact o_pick rfl rfl) ?_
      refine tl_v rfl (o_assign rfl) ?_
      refine tl_nil ?_
      refine q_then_n ?_
      refine tc_ret ?_
      exact ⟨.bool false, res1 rfl rfl, by unfold fitsB; rw [decide_eq_false (by omega)], rfl⟩
  · try simp only [decide_eq_true_eq, decide_eq_false_iff_not, Bool.not_eq_true', Bool.not_eq_false', Option.isNone_some, Option.isNone_none, Bool.not_true, Bool.not_false] at h
    refine tl_skip rfl ?_
    refine tl_skip rfl ?_
    refine tl_v rfl (by first | exact o_pick_t rfl rfl | exact o_pick_f rfl rfl | exact o_pick rfl rfl) ?_
    refine tl_v rfl (o_move rfl) ?_
    refine tl_skip rfl ?_
    refine tl_skip rfl ?_
    refine tl_skip rfl ?_
    refine tl_v rfl (by first | exact o_pick_t rfl rfl | exact o_pick_f rfl rfl | exact o_pick rfl rfl) ?_
    refine tl_v rfl (o_assign rfl) ?_
    refine tl_nil ?_
    refine q_then_n ?_
    refine tc_ret ?_
    exact ⟨.bool false, res1 rfl rfl, by unfold fitsB; rw [decide_eq_false (by omega)], rfl⟩
theorem NewNo_f (A : SP) (p : Int) (hp : -9223372036854775808 ≤ p ∧ p ≤ 9223372036854775807) (hno : fitsB p = false) :
    Fn Try.prog 51 #[.int .i64 p] (A) (fun r B => r = .tuple #[.pointer none, .int .i64 80] ∧ A = B) := by
  refine fn_enter (args := [.int .i64 p]) Try.func51 rfl Try.ntmps51 (by simp) ?_
  refine tc_seq ?_
  refine tc_reg ?_
  refine tl_v rfl (o_assign rfl) ?_
  refine tl_v rfl (o_assign rfl) ?_
  refine tl_nil ?_
  refine q_then_n ?_
  refine tc_seq ?_
  refine tc_seq ?_
  refine tc_reg ?_
  refine tl_v rfl (o_move rfl) ?_
  refine tl_c rfl (o_call bd117 rfl (fits_f A p hp)) ?_
  rintro _ _ ⟨rfl, rfl⟩
  refine tl_v rfl (o_not rfl) ?_
  refine tl_nil ?_
  refine q_then_n ?_
  refine tc_cond rfl (fun h => ?_) (fun h => ?_)
  · try simp only [decide_eq_true_eq, decide_eq_false_iff_not, Bool.not_eq_true', Bool.not_eq_false', Option.isNone_some, Option.isNone_none, Bool.not_true, Bool.not_false] at h
    refine tc_seq ?_
    refine tc_reg ?_
    refine tl_v rfl (o_assign rfl) ?_
    refine tl_v rfl (o_assign rfl) ?_
    refine tl_nil ?_
    refine q_then_n ?_
    refine tc_ret ?_
    refine q_then_r ?_
    exact ⟨.tuple #[.pointer none, .int .i64 80], res2 rfl rfl rfl, rfl, rfl⟩
  · exfalso; simp [hno] at h
theorem New_f (F : SP) (n : Nat) (hn : 0 < n) (hn2 : n ≤ 65536) :
    Fn Try.prog 51 #[.int .i64 ((n * 64 : Nat) : Int)] (F) (fun r B => ∃ d, r = .tuple #[.pointer (some ⟨d, 0, none⟩), .int .i64 0] ∧ B = F * Dev d (newS n)) := by
  refine fn_enterW (args := [.int .i64 ((n * 64 : Nat) : Int)]) Try.func51 rfl Try.ntmps51 (by simp) ?_
  have hfit : fitsB ((n * 64 : Nat) : Int) = true := by unfold fitsB; simp; omega
  refine tc_seq ?_
  refine tc_reg ?_
  refine tl_v rfl (o_assign rfl) ?_
  refine tl_v rfl (o_assign rfl) ?_
  refine tl_nil ?_
  refine q_then_n ?_
  refine tc_seq ?_
  refine tc_seq ?_
  refine tc_reg ?_
  refine tl_v rfl (o_move rfl) ?_
  refine tl_c rfl (o_call bd117 rfl (fits_f F _ (by omega))) ?_
  rintro _ _ ⟨rfl, rfl⟩
  refine tl_v rfl (o_not rfl) ?_
  refine tl_nil ?_
  refine q_then_n ?_
  refine tc_cond rfl (fun h => ?_) (fun h => ?_)
  · exfalso; rw [hfit] at h; exact absurd h (by decide)
  · try simp only [decide_eq_true_eq, decide_eq_false_iff_not, Bool.not_eq_true', Bool.not_eq_false', Option.isNone_some, Option.isNone_none, Bool.not_true, Bool.not_false] at h
    refine tc_skip ?_
    refine q_then_n ?_
    refine tc_seq ?_
    refine tc_reg ?_
    refine tl_v rfl (o_move rfl) ?_
    refine tl_v rfl (o_quoN (a := n * 64) (b := 64) rfl rfl (by omega)) ?_
    refine tl_env (d := 10) (v := .int .i64 (n : Nat)) (by show Value.int .i64 ((n * 64 / 64 : Nat) : Int) = _; rw [Nat.mul_div_cancel _ (by decide)]) ?_
    refine tl_x rfl (o_makeSliceK (len := n) (cap := n) Try.underlying95 sz150 by150 z150 rfl (by decide) rfl rfl (by omega) (by omega) (by omega) hn) ?_
    rintro _ _ ⟨b11, rfl, rfl⟩
    refine tl_v rfl (o_buildS Try.underlying97 z97 (pl97 Try.underlying97) rfl rfl) ?_
    refine tl_x rfl (o_box rfl rfl) ?_
    rintro _ _ ⟨b13, rfl, rfl⟩
    refine tl_pre (fun _ _ h => blank_dev h) ?_
    refine tl_v rfl (o_assign rfl) ?_
    refine tl_nil ?_
    refine q_then_n ?_
    refine tc_seq ?_
    refine tc_seq ?_
    refine tc_reg ?_
    refine tl_v rfl (o_move rfl) ?_
    refine tl_v rfl (o_nilCheck rfl) ?_
    refine tl_v rfl (o_fieldAddr (o := 0) Try.underlying97 rfl rfl sz95 rfl) ?_
    refine tl_v rfl (o_load p95 rfl devC_d rfl) ?_
    refine tl_v rfl (o_len Try.underlying95 rfl) ?_
    refine tl_v rfl (o_move rfl) ?_
    refine tl_nil ?_
    refine q_then_n ?_
    refine tc_block ?_
    refine tc_loop (fun k ρ B => ∃ (i : Nat) (svs' : List Value), i ≤ n ∧ k = n - i ∧ svs'.length = n ∧ ρ 4 = .pointer (some ⟨b13, 0, none⟩) ∧ ρ 18 = .int .i64 n ∧ ρ 19 = .int .i64 i ∧ B = F * DevC b13 b11 svs' (.slice none 0 0) [] { blank n with ls := mp (fun _ => zline) i (blank n).ls }) (m := n) ?_ ?_
    · exact ⟨0, List.replicate n (.slice none 0 0), by omega, rfl, by simp, rfl, by show Value.int .i64 ((List.replicate n (⟨[], 0⟩ : LineS)).length : Int) = _; rw [List.length_replicate], rfl, by rw [mp_zero]⟩
    · intro k ρ B hI
      obtain ⟨i, svs', hi, rfl, hsv', h4, h18, h19, rfl⟩ := hI
      refine tc_env (d := 4) h4 ?_
      refine tc_env (d := 18) h18 ?_
      refine tc_env (d := 19) h19 ?_
      refine tc_seq ?_
      refine tc_reg ?_
      refine tl_v rfl (o_lss rfl rfl) ?_
      refine tl_nil ?_
      refine q_then_n ?_
      refine tc_seq ?_
      refine tc_cond rfl (fun h => ?_) (fun h => ?_)
      · simp only [decide_eq_true_eq] at h
        have hi' : i < (blank n).ls.length := by simp [blank]; omega
        have hbl : (blank n).ls.length = n := by simp [blank]
        have hglen : (mp (fun _ => zline) i (blank n).ls).length = n := by rw [mp_length, hbl]
        have hiG : i < (mp (fun _ => zline) i (blank n).ls).length := by omega
        have hsG : svs'.length = (mp (fun _ => zline) i (blank n).ls).length := by omega
        obtain ⟨R, hf1, hf2⟩ := devC_focus (d := b13) (bl := b11) (kvs := []) (av := .slice none 0 0) (s := { blank n with ls := mp (fun _ => zline) i (blank n).ls }) hsG hiG
        refine tc_eq (hf1 F) ?_
        simp only [hglen]
        refine tc_skip ?_
        refine q_then_n ?_
        refine tc_seq ?_
        refine tc_block ?_
        refine tc_seq ?_
        refine tc_reg ?_
        refine tl_v rfl (o_move rfl) ?_
        refine tl_v rfl (o_assign rfl) ?_
        refine tl_nil ?_
        refine q_then_n ?_
        refine tc_reg ?_
        refine tl_v rfl (o_move rfl) ?_
        refine tl_v rfl (o_nilCheck rfl) ?_
        refine tl_v rfl (o_fieldAddr (o := 0) Try.underlying97 rfl rfl sz95 rfl) ?_
        refine tl_v rfl (o_load p95 rfl (by repeat (first | exact has_here | exact has_pt | apply has_left)) rfl) ?_
        refine tl_v rfl (o_move rfl) ?_
        refine tl_v rfl (o_buildA (vs := []) Try.underlying147 sz53 z147 rfl rfl rfl (Nat.zero_le _) rfl) ?_
        refine tl_x rfl (o_buildSliceK (l := wds (List.replicate 8 0)) Try.underlying148 sz147 z147 rfl rfl (by decide)) ?_
        rintro _ _ ⟨b28, rfl, rfl⟩
        refine tl_v rfl (o_buildS (l := [.slice (some ⟨b28, 0, none⟩) 1 1, .int .i64 (-1)]) Try.underlying150 z150 (pl150 Try.underlying150) rfl rfl) ?_
        refine tl_v rfl (o_indexAddrN (j := i) Try.underlying95 sz150 rfl rfl (by omega)) ?_
        refine tl_u rfl (o_storeN (l := lcs svs' (mp (fun _ => zline) i (blank n).ls)) (l' := lcs (svs'.set i (.slice (some ⟨b28, 0, none⟩) 1 1)) ((mp (fun _ => zline) i (blank n).ls).set i zline)) sz150 rfl rfl rfl rfl (by rw [lcs_length hsG, hglen]; omega) (by rw [Nat.zero_add]; exact lcs_set (l := zline) hsG hiG) (by repeat (first | exact upd_here | exact upd_pt | apply upd_left))) ?_
        refine tl_pre (fun _ _ h => h.newline (by rfl)) ?_
        have hfin := hf2 F (.slice (some ⟨b28, 0, none⟩) 1 1) zline
        simp only [hglen] at hfin
        refine tl_eq hfin ?_
        simp only [mp_set (fun _ => zline) hi']
        refine tl_nil ?_
        refine q_block_n (q_then_n ?_)
        refine tc_reg ?_
        refine tl_v rfl (by first | exact o_addI rfl rfl (by omega) | exact o_add rfl rfl) ?_
        refine tl_v rfl (o_move rfl) ?_
        refine tl_nil ?_
        refine q_then_n ?_
        exact ⟨_, by omega, i + 1, _, by omega, rfl, by rw [List.length_set]; exact hsv', rfl, rfl, rfl, rfl⟩
      · try simp only [decide_eq_true_eq, decide_eq_false_iff_not, Bool.not_eq_true', Bool.not_eq_false', Option.isNone_some, Option.isNone_none, Bool.not_true, Bool.not_false] at h
        refine tc_exit ?_
        refine q_then_e (q_then_e (q_block_x (q_then_n ?_)))
        refine tc_seq ?_
        refine tc_reg ?_
        refine tl_v rfl (o_move rfl) ?_
        refine tl_v rfl (o_assign rfl) ?_
        refine tl_v rfl (o_assign rfl) ?_
        refine tl_nil ?_
        refine q_then_n ?_
        refine tc_ret ?_
        obtain rfl : i = n := by omega
        exact ⟨.tuple #[.pointer (some ⟨b13, 0, none⟩), .int .i64 0], _, res2 rfl rfl rfl, fun g w h => dev_back (s := newS i) (newS_wf hn hn2) (by simp [newS]; exact hsv') rfl g w (h.perm (by show F * DevC b13 b11 svs' _ [] { blank i with ls := mp (fun _ => zline) i (List.replicate i ⟨[], 0⟩) } = _; rw [mp_blank]; rfl)), _, rfl, rfl⟩
end Go.Vl

set_option linter.unusedVariables false
set_option linter.unusedSimpArgs false
namespace Go.Vl
open Go Go.Proofs
section
variable {F : SP} {d : Nat} {s : DevS}
theorem OpsD_f : Fn Try.prog 41 #[.pointer (some ⟨d, 0, none⟩)] (F * Dev d s) (fun r B => r = .int .i64 s.ops ∧ F * Dev d s = B) :=
  fn_devR0 fun _ A bl svs av hR => Ops_f A d bl s.ls.length s av hR.d hR.wf.pos hR.wf.top
theorem ImageD_f : Fn Try.prog 33 #[.pointer (some ⟨d, 0, none⟩)] (F * Dev d s) (fun r B => ∃ X, B = F * Dev d s * X ∧ X = Sl 1 r (s.ls.length * 64) (bys (imgS s))) :=
  fn_devR fun _ A bl svs av hR => Image_f A d bl svs av s hR
theorem LoadD_f {p m : Nat} {W : List Nat} (hoff : s.off = false) (hpm : p + m ≤ s.ls.length * 64) (hW : W = ((imgS s).drop p).take m) :
    Fn Try.prog 27 #[.pointer (some ⟨d, 0, none⟩), .int .i64 (p : Nat), .int .i64 (m : Nat)] (F * Dev d s) (fun r B => ∃ X, B = F * Dev d s * X ∧ ∃ u, r = .tuple #[u, .int .i64 0] ∧ X = Sl 1 u m (bys W)) :=
  fn_devR fun _ A bl svs av hR => Load_f A d bl svs av s p m W hR hoff hpm hW
end
def aw1 : DevS := (st8 0 257 (newS 2)).2
def aw2 : DevS := (fl1 3 aw1).2
def aw3 : DevS := (st8 8 5 aw2).2
def aw4 : DevS := (fe aw3).2
def aw5 : DevS := goesS [] aw4
def aw6 : DevS := { aw5 with off := false }
def awB : List Nat := [1, 1, 0, 0, 0, 0, 0, 0, 0, 0, 0, 0, 0, 0, 0, 0]
end Go.Vl

set_option linter.unusedVariables false
set_option linter.unusedSimpArgs false
namespace Go.Vl
open Go Go.Proofs
/-- A device and its book. -/
structure PlS where
  s : DevS
  seen : List Nat
  held : List (List Nat)
  last : List Nat
  sure : List Bool
  marks : List Int
def wi (p : Int) (n : Nat) : Nat := (p % (n : Int)).toNat
def lastF (marks : List Int) (seen : List Nat) : Nat → Nat → Nat := fun i x => if marks.getD (i / 8) 0 = 1 then seen.getD i 0 else x
def sureF (marks : List Int) : Nat → Bool → Bool := fun i x => if marks.getD (i / 8) 0 = 1 then true else x
/-- One step without a loss of power, told. -/
def stepP (k p : Int) (v : Nat) (P : PlS) : Bool × PlS :=
  if k = 2 ∨ k = 3 then
    (decide ((st8 ((8 * wi p P.seen.length : Nat) : Int) v P.s).1 = 0), ⟨(st8 ((8 * wi p P.seen.length : Nat) : Int) v P.s).2, P.seen.set (wi p P.seen.length) v, P.held.set (wi p P.seen.length) (P.held.getD (wi p P.seen.length) [] ++ [v]), P.last,
      P.sure.set (wi p P.seen.length) false, if P.marks.getD (wi p P.seen.length / 8) 0 = 1 then P.marks.set (wi p P.seen.length / 8) 2 else P.marks⟩)
  else if k = 4 then (decide ((fl1 ((8 * wi p P.seen.length : Nat) : Int) P.s).1 = 0), { P with s := (fl1 ((8 * wi p P.seen.length : Nat) : Int) P.s).2, marks := P.marks.set (wi p P.seen.length / 8) 1 })
  else if k = 5 then (decide ((fe P.s).1 = 0), { P with s := (fe P.s).2, last := pm (lastF P.marks P.seen) P.seen.length P.last, sure := pm (sureF P.marks) P.seen.length P.sure, marks := pm (fun _ _ => 0) P.marks.length P.marks })
  else (true, P)
/-- The book's own cells. -/
def pcs (d : Nat) (sv hv lv uv mv : Value) : List Value := [.pointer (some ⟨d, 0, none⟩), sv, hv, lv, uv, mv]
def PlC (p d : Nat) (sv hv lv uv mv : Value) (hvs : List Value) (P : PlS) : SP :=
  pt p (cl (pcs d sv hv lv uv mv) 46) * Dev d P.s * Words hvs P.held * Sl 1 sv P.seen.length (wds P.seen) * Sl 1 hv P.seen.length hvs * Sl 1 lv P.seen.length (wds P.last) * Sl 1 uv P.seen.length (bos P.sure) * Sl 1 mv P.marks.length (ints P.marks)
structure WfP (r : Nat) (P : PlS) : Prop where
  pos : 0 < P.marks.length
  top : P.marks.length ≤ 4
  ls : P.s.ls.length = P.marks.length
  seen : P.seen.length = 8 * P.marks.length
  held : P.held.length = 8 * P.marks.length
  last : P.last.length = 8 * P.marks.length
  sure : P.sure.length = 8 * P.marks.length
  room : Room r P.s
  hroom : ∀ l ∈ P.held, l.length + r ≤ 2199023255552
end Go.Vl

set_option linter.unusedVariables false
set_option linter.unusedSimpArgs false
namespace Go.Vl
open Go Go.Proofs
/-- No loss of power is planned, and none was. -/
structure Live (s : DevS) : Prop where
  off : s.off = false
  arms : s.arms = []
/-- A step's cells. -/
structure StepC where
  k : Int
  q : Int
  nv : Value
  v : Nat
  dv : Value
  kv : Value
  av : Value
def StepC.cells (t : StepC) : List Value := [.int .i64 t.k, .int .i64 t.q, t.nv, .int .u64 (t.v : Nat), t.dv, t.kv, t.av]
def scs (l : List StepC) : List Value := l.flatMap StepC.cells
def playL (l : List StepC) (P : PlS) : PlS := l.foldl (fun P t => (stepP t.k t.q t.v P).2) P
def begS (n : Nat) : PlS := ⟨newS n, List.replicate (8 * n) 0, List.replicate (8 * n) [0], List.replicate (8 * n) 0, List.replicate (8 * n) true, List.replicate n 0⟩
end Go.Vl

set_option linter.unusedVariables false
set_option linter.unusedSimpArgs false
namespace Go.Vl
open Go Go.Proofs
/-- Lists of bytes, to be read. -/
def RdRows (A : SP) (a : Option Addr) (ls : List (List Nat)) : Prop := ∃ vs : List Value, vs.length = ls.length ∧ Rd A a vs ∧ ∀ i (h : i < ls.length), ∃ b c, vs[i]? = some (.slice b ls[i].length c) ∧ Rd A b (bys ls[i])
theorem RdRows.left {A X : SP} {a : Option Addr} {ls : List (List Nat)} (h : RdRows A a ls) : RdRows (A * X) a ls := by
  obtain ⟨vs, h1, h2, h3⟩ := h
  exact ⟨vs, h1, h2.left, fun i hi => by obtain ⟨b, c, e, hr⟩ := h3 i hi; exact ⟨b, c, e, hr.left⟩⟩
theorem parts_get : ∀ {vs : List Value} {ls : List (List Nat)} {i : Nat} (h : vs.length = ls.length) (hi : i < ls.length),
    ∃ R, Parts vs ls = R * Sl 1 (vs[i]'(by omega)) ls[i].length (bys ls[i]) ∧ ∀ v l, Parts (vs.set i v) (ls.set i l) = R * Sl 1 v l.length (bys l)
  | [], [], _, _, hi => by simp at hi
  | v :: vs, l :: ls, 0, h, _ => ⟨Parts vs ls, rfl, fun _ _ => rfl⟩
  | v :: vs, l :: ls, i + 1, h, hi => by
    obtain ⟨R, h1, h2⟩ := parts_get (vs := vs) (ls := ls) (i := i) (by simpa using h) (by simpa using hi)
    refine ⟨R * Sl 1 v l.length (bys l), ?_, fun u m => ?_⟩
    · simp only [Parts, List.getElem_cons_succ]; rw [h1, star_swap]
    · simp only [List.set_cons_succ, Parts]; rw [h2, star_swap]
theorem Foc.parts {A A' : SP} {hvs : List Value} {held : List (List Nat)} (h : Foc A (Parts hvs held) (Parts hvs held) A') (hl : hvs.length = held.length) {g : Gh} {w : World} (hs : sat g w A) :
    ∀ i (hi : i < held.length), ∃ a c, hvs[i]? = some (.slice a held[i].length c) ∧ held[i].length ≤ c ∧ Rd (Parts hvs held) a (bys held[i]) := fun i hi => by
  obtain ⟨R, rfl, _⟩ := h
  obtain ⟨S, h1, _⟩ := parts_get hl hi
  have hs2 := hs.right
  obtain ⟨a, c, e, hle, _, hr⟩ := sl_have' h1 hs2
  exact ⟨a, c, by rw [List.getElem?_eq_getElem (by omega), e], hle, hr⟩
end Go.Vl

set_option linter.unusedVariables false
set_option linter.unusedSimpArgs false
namespace Go.Vl
open Go Go.Proofs
theorem slb_snoc {A : SP} {u : Value} {l : List Nat} {x : Nat} : A * Sl 1 u (l.length + 1) (bys l ++ [.int .u8 (x : Int)]) = A * Sl 1 u (l ++ [x]).length (bys (l ++ [x])) := by
  rw [bys_append, List.length_append]; rfl
theorem CopyBytes_f (A : SP) (a : Option Addr) (c : Nat) (xs : List Nat) (hr : Rd A a (bys xs)) (hl : xs.length ≤ 140737488351232) :
    Fn Try.prog 39 #[.slice a xs.length c] (A) (fun r B => B = A * Sl 1 r xs.length (bys xs)) := by
  refine fn_enter (args := [.slice a xs.length c]) Try.func39 rfl Try.ntmps39 (by simp) ?_
  refine tc_seq ?_
  refine tc_reg ?_
  refine tl_v rfl (o_assign rfl) ?_
  refine tl_nil ?_
  refine q_then_n ?_
  refine tc_seq ?_
  refine tc_reg ?_
  refine tl_v rfl (o_move rfl) ?_
  refine tl_v rfl (o_len Try.underlying28 rfl) ?_
  refine tl_x rfl (o_makeSlice (len := 0) (cap := xs.length) Try.underlying28 sz5 by5 z5 rfl rfl rfl (by omega) (by omega) (by omega)) ?_
  rintro _ _ ⟨b7, rfl, rfl⟩
  refine tl_pre (fun _ _ h => sl_new (k := 1) (n := 0) (cap := xs.length) (xs := []) h (by omega) (by simp) (by simp)) ?_
  refine tl_v rfl (o_assign rfl) ?_
  refine tl_nil ?_
  refine q_then_n ?_
  refine tc_seq ?_
  refine tc_seq ?_
  refine tc_reg ?_
  refine tl_v rfl (o_assign rfl) ?_
  refine tl_nil ?_
  refine q_then_n ?_
  refine tc_block ?_
  refine tc_loop (fun kk ρ BB => ∃ (i : Nat) (v : Value), (i ≤ xs.length) ∧ kk = xs.length - i ∧ ρ 0 = .slice a xs.length c ∧ ρ 3 = v ∧ ρ 4 = .int .i64 (i : Nat) ∧ BB = A * Sl 1 v (xs.take i).length (bys (xs.take i))) (m := xs.length - (0)) ?_ ?_
  · exact ⟨0, _, by omega, rfl, rfl, rfl, rfl, rfl⟩
  · intro k ρ B hI
    obtain ⟨i, v, hp0, rfl, hs0, hs3, hs4, rfl⟩ := hI
    refine tc_env (d := 0) hs0 ?_
    refine tc_env (d := 3) hs3 ?_
    refine tc_env (d := 4) hs4 ?_
    refine tc_seq ?_
    refine tc_seq ?_
    refine tc_reg ?_
    refine tl_v rfl (o_move rfl) ?_
    refine tl_v rfl (o_move rfl) ?_
    refine tl_v rfl (o_len Try.underlying28 rfl) ?_
    refine tl_v rfl (o_lss rfl rfl) ?_
    refine tl_nil ?_
    refine q_then_n ?_
    refine tc_cond rfl (fun h => ?_) (fun h => ?_)
    · simp only [decide_eq_true_eq] at h
      have hi' : i < xs.length := by omega
      obtain ⟨b, o, rfl, hc⟩ := hr.some (by rw [bys_length]; omega)
      have g1 := hc i _ (bys_at hi')
      refine tc_skip ?_
      refine q_then_n ?_
      refine tc_seq ?_
      refine tc_block ?_
      refine tc_reg ?_
      refine tl_v rfl (o_move rfl) ?_
      refine tl_v rfl (o_move rfl) ?_
      refine tl_v rfl (o_move rfl) ?_
      refine tl_v rfl (o_indexAddrN1 (j := i) Try.underlying28 sz5 rfl rfl (by omega)) ?_
      refine tl_v rfl (o_loadC p5 rfl g1.left) ?_
      refine tl_x rfl (o_buildSlice1 (v := .int .u8 (xs[i] : Nat)) Try.underlying28 sz5 z5 rfl rfl) ?_
      rintro _ _ ⟨b19, rfl, rfl⟩
      refine tl_x rfl (o_append1 Try.underlying28 Try.underlying28 sz5 by5 z5 rfl (by decide) (by decide) rfl rfl rfl rfl rfl (by rw [List.length_take]; omega)) ?_
      rintro u20 _ rfl
      refine tl_v rfl (o_assign rfl) ?_
      refine tl_nil ?_
      refine q_block_n (q_then_n ?_)
      refine tc_reg ?_
      refine tl_v rfl (o_move rfl) ?_
      refine tl_v rfl (by first | exact o_addI rfl rfl (by omega) | exact o_add rfl rfl) ?_
      refine tl_v rfl (o_assign rfl) ?_
      refine tl_nil ?_
      refine q_then_n ?_
      exact ⟨_, by omega, i + 1, u20, by omega, rfl, rfl, rfl, rfl, by rw [List.take_succ_eq_append_getElem hi', ← slb_snoc]⟩
    · try simp only [decide_eq_true_eq, decide_eq_false_iff_not, Bool.not_eq_true', Bool.not_eq_false', Option.isNone_some, Option.isNone_none, Bool.not_true, Bool.not_false] at h
      refine tc_exit ?_
      refine q_then_e (q_then_e (q_block_x (q_then_n ?_)))
      refine tc_seq ?_
      refine tc_reg ?_
      refine tl_v rfl (o_move rfl) ?_
      refine tl_v rfl (o_assign rfl) ?_
      refine tl_nil ?_
      refine q_then_n ?_
      refine tc_ret ?_
      obtain rfl : i = xs.length := by omega
      rw [List.take_length]
      exact ⟨v, res1 rfl rfl, rfl⟩
theorem Join_f (A : SP) (a : Option Addr) (c : Nat) (ls : List (List Nat)) (hr : RdRows A a ls) (hl : ls.flatten.length ≤ 17592186044416) (hl2 : ls.length ≤ 17592186044416) :
    Fn Try.prog 36 #[.slice a ls.length c] (A) (fun r B => B = A * Sl 1 r ls.flatten.length (bys ls.flatten)) := by
  refine fn_enter (args := [.slice a ls.length c]) Try.func36 rfl Try.ntmps36 (by simp) ?_
  obtain ⟨vs, hvl, hra, hrows⟩ := hr
  refine tc_seq ?_
  refine tc_reg ?_
  refine tl_v rfl (o_assign rfl) ?_
  refine tl_nil ?_
  refine q_then_n ?_
  refine tc_seq ?_
  refine tc_reg ?_
  refine tl_v rfl (o_assign rfl) ?_
  refine tl_nil ?_
  refine q_then_n ?_
  refine tc_seq ?_
  refine tc_seq ?_
  refine tc_reg ?_
  refine tl_pre (fun _ _ h => sl_nil (k := 1) h) ?_
  refine tl_v rfl (o_assign rfl) ?_
  refine tl_nil ?_
  refine q_then_n ?_
  refine tc_block ?_
  refine tc_loop (fun kk ρ BB => ∃ (i : Nat) (v : Value), (i ≤ ls.length) ∧ kk = ls.length - i ∧ ρ 0 = .slice a ls.length c ∧ ρ 3 = v ∧ ρ 4 = .int .i64 (i : Nat) ∧ BB = A * Sl 1 v (ls.take i).flatten.length (bys (ls.take i).flatten)) (m := ls.length - (0)) ?_ ?_
  · exact ⟨0, _, by omega, rfl, rfl, rfl, rfl, rfl⟩
  · intro k ρ B hI
    obtain ⟨i, v, hp0, rfl, hs0, hs3, hs4, rfl⟩ := hI
    refine tc_env (d := 0) hs0 ?_
    refine tc_env (d := 3) hs3 ?_
    refine tc_env (d := 4) hs4 ?_
    refine tc_seq ?_
    refine tc_seq ?_
    refine tc_reg ?_
    refine tl_v rfl (o_move rfl) ?_
    refine tl_v rfl (o_move rfl) ?_
    refine tl_v rfl (o_len Try.underlying33 rfl) ?_
    refine tl_v rfl (o_lss rfl rfl) ?_
    refine tl_nil ?_
    refine q_then_n ?_
    refine tc_cond rfl (fun h => ?_) (fun h => ?_)
    · simp only [decide_eq_true_eq] at h
      have hi' : i < ls.length := by omega
      obtain ⟨b, o, rfl, hc⟩ := hra.some (by omega)
      obtain ⟨bi, ci, e1, hri⟩ := hrows i hi'
      have g1 := hc i _ e1
      have hfl : (ls.take i).flatten.length + ls[i].length ≤ ls.flatten.length := by
        have e := List.take_append_drop i ls
        have e2 : ls.flatten.length = (ls.take i).flatten.length + (ls.drop i).flatten.length := by rw [← List.length_append, ← List.flatten_append, e]
        rw [e2, List.drop_eq_getElem_cons hi', List.flatten_cons, List.length_append]; omega
      refine tc_skip ?_
      refine q_then_n ?_
      refine tc_seq ?_
      refine tc_block ?_
      refine tc_seq ?_
      refine tc_reg ?_
      refine tl_v rfl (o_assign rfl) ?_
      refine tl_nil ?_
      refine q_then_n ?_
      refine tc_block ?_
      refine tc_loop (fun kk ρ BB => ∃ (j : Nat) (u : Value), (j ≤ ls[i].length) ∧ kk = ls[i].length - j ∧ ρ 0 = .slice (some ⟨b, o, none⟩) ls.length c ∧ ρ 3 = u ∧ ρ 4 = .int .i64 (i : Nat) ∧ ρ 5 = .int .i64 (j : Nat) ∧ BB = A * Sl 1 u ((ls.take i).flatten ++ ls[i].take j).length (bys ((ls.take i).flatten ++ ls[i].take j))) (m := ls[i].length - (0)) ?_ ?_
      · exact ⟨0, v, by omega, rfl, rfl, rfl, rfl, rfl, by rw [List.take_zero, List.append_nil]⟩
      · intro k ρ B hI
        obtain ⟨j, u, hp0, rfl, hs0, hs3, hs4, hs5, rfl⟩ := hI
        refine tc_env (d := 0) hs0 ?_
        refine tc_env (d := 3) hs3 ?_
        refine tc_env (d := 4) hs4 ?_
        refine tc_env (d := 5) hs5 ?_
        refine tc_seq ?_
        refine tc_seq ?_
        refine tc_reg ?_
        refine tl_v rfl (o_move rfl) ?_
        refine tl_v rfl (o_move rfl) ?_
        refine tl_v rfl (o_move rfl) ?_
        refine tl_v rfl (o_indexAddrN1 (j := i) Try.underlying33 sz28 rfl rfl (by omega)) ?_
        refine tl_v rfl (o_loadC p28 rfl g1.left) ?_
        refine tl_v rfl (o_len Try.underlying28 rfl) ?_
        refine tl_v rfl (o_lss rfl rfl) ?_
        refine tl_nil ?_
        refine q_then_n ?_
        refine tc_cond rfl (fun h => ?_) (fun h => ?_)
        · simp only [decide_eq_true_eq] at h
          have hj' : j < ls[i].length := by omega
          obtain ⟨bb, oo, rfl, hcc⟩ := hri.some (by rw [bys_length]; omega)
          have g2 := hcc j _ (bys_at hj')
          refine tc_skip ?_
          refine q_then_n ?_
          refine tc_seq ?_
          refine tc_block ?_
          refine tc_reg ?_
          refine tl_v rfl (o_move rfl) ?_
          refine tl_v rfl (o_move rfl) ?_
          refine tl_v rfl (o_move rfl) ?_
          refine tl_v rfl (o_indexAddrN1 (j := i) Try.underlying33 sz28 rfl rfl (by omega)) ?_
          refine tl_v rfl (o_loadC p28 rfl g1.left) ?_
          refine tl_v rfl (o_move rfl) ?_
          refine tl_v rfl (o_indexAddrN1 (j := j) Try.underlying28 sz5 rfl rfl (by omega)) ?_
          refine tl_v rfl (o_loadC p5 rfl g2.left) ?_
          refine tl_x rfl (o_buildSlice1 (v := .int .u8 (ls[i][j] : Nat)) Try.underlying28 sz5 z5 rfl rfl) ?_
          rintro _ _ ⟨b29, rfl, rfl⟩
          refine tl_x rfl (o_append1 Try.underlying28 Try.underlying28 sz5 by5 z5 rfl (by decide) (by decide) rfl rfl rfl rfl rfl (by rw [List.length_append, List.length_take]; omega)) ?_
          rintro u30 _ rfl
          refine tl_v rfl (o_assign rfl) ?_
          refine tl_nil ?_
          refine q_block_n (q_then_n ?_)
          refine tc_reg ?_
          refine tl_v rfl (o_move rfl) ?_
          refine tl_v rfl (by first | exact o_addI rfl rfl (by omega) | exact o_add rfl rfl) ?_
          refine tl_v rfl (o_assign rfl) ?_
          refine tl_nil ?_
          refine q_then_n ?_
          exact ⟨_, by omega, j + 1, u30, by omega, rfl, rfl, rfl, rfl, rfl, by rw [List.take_succ_eq_append_getElem hj', ← List.append_assoc, ← slb_snoc]⟩
        · simp only [decide_eq_false_iff_not] at h
          obtain rfl : j = ls[i].length := by omega
          rw [List.take_length]
          refine tc_exit ?_
          refine q_then_e (q_then_e (q_block_x (q_block_n (q_then_n ?_))))
          refine tc_reg ?_
          refine tl_v rfl (o_move rfl) ?_
          refine tl_v rfl (by first | exact o_addI rfl rfl (by omega) | exact o_add rfl rfl) ?_
          refine tl_v rfl (o_assign rfl) ?_
          refine tl_nil ?_
          refine q_then_n ?_
          exact ⟨_, by omega, i + 1, u, by omega, rfl, rfl, rfl, rfl, by rw [List.take_succ_eq_append_getElem hi', List.flatten_append, List.flatten_singleton]⟩
    · try simp only [decide_eq_true_eq, decide_eq_false_iff_not, Bool.not_eq_true', Bool.not_eq_false', Option.isNone_some, Option.isNone_none, Bool.not_true, Bool.not_false] at h
      refine tc_exit ?_
      refine q_then_e (q_then_e (q_block_x (q_then_n ?_)))
      refine tc_seq ?_
      refine tc_reg ?_
      refine tl_v rfl (o_move rfl) ?_
      refine tl_v rfl (o_assign rfl) ?_
      refine tl_nil ?_
      refine q_then_n ?_
      refine tc_ret ?_
      obtain rfl : i = ls.length := by omega
      rw [List.take_length]
      exact ⟨v, res1 rfl rfl, rfl⟩
theorem JoinN_f (A : SP) (a : Option Addr) (c n : Nat) (ls : List (List Nat)) (hr : RdRows A a ls) (hl : ls.flatten.length ≤ 17592186044416) (hl2 : ls.length ≤ 17592186044416) (hn : ls.length = n) :
    Fn Try.prog 36 #[.slice a n c] A (fun r B => B = A * Sl 1 r ls.flatten.length (bys ls.flatten)) := by subst hn; exact Join_f A a c ls hr hl hl2
end Go.Vl

set_option linter.unusedVariables false
set_option linter.unusedSimpArgs false
namespace Go.Vl
open Go Go.Proofs
/-- A line of bytes. -/
def wordF (xs : List Nat) (i k : Nat) : Nat := nm ((xs.drop (i * 64 + k * 8)).take 8)
def lineF (xs : List Nat) (i : Nat) : LineS := ⟨[(List.replicate 8 0).mapIdx fun k _ => wordF xs i k], -1⟩
/-- A device of bytes. -/
def fromS (n : Nat) (xs : List Nat) : DevS := { newS n with ls := (newS n).ls.mapIdx fun i _ => lineF xs i }
theorem take8_lt {xs : List Nat} (hb : ∀ x ∈ xs, x < 256) (p : Nat) : nm ((xs.drop p).take 8) < 18446744073709551616 := by
  have h1 := nm_lt ((xs.drop p).take 8) fun x hx => hb x (List.mem_of_mem_drop (List.mem_of_mem_take hx))
  have h2 : ((xs.drop p).take 8).length ≤ 8 := by rw [List.length_take]; omega
  have h3 := Nat.pow_le_pow_right (show 0 < 256 by decide) h2
  have : (256 : Nat) ^ 8 = 18446744073709551616 := by decide
  omega
theorem lineF_wf {xs : List Nat} (hb : ∀ x ∈ xs, x < 256) (i : Nat) : WfL (lineF xs i) := by
  refine ⟨by simp [lineF], ?_, by simp [lineF], by simp [lineF], by simp [lineF], ?_⟩
  · intro s hs
    simp only [lineF, List.mem_singleton] at hs; subst hs; simp
  · intro s hs x hx
    simp only [lineF, List.mem_singleton] at hs; subst hs
    obtain ⟨j, hj, rfl⟩ := List.mem_iff_getElem.1 hx
    rw [List.getElem_mapIdx]; exact take8_lt hb _
theorem fromS_wf {n : Nat} {xs : List Nat} (h : 0 < n) (h2 : n ≤ 65536) (hb : ∀ x ∈ xs, x < 256) : WfD (fromS n xs) :=
  ⟨by simp [fromS, newS]; exact h, by simp [fromS, newS]; exact h2, fun l hl => by
    obtain ⟨j, hj, rfl⟩ := List.mem_iff_getElem.1 hl
    simp only [fromS, List.getElem_mapIdx]; exact lineF_wf hb _, by simp [fromS, newS], by simp [fromS, newS], by simp [fromS, newS]⟩
/-- Bytes laid over others. -/
def spl {α : Type} (l : List α) (p : Nat) (b : List α) : List α := l.take p ++ b ++ l.drop (p + b.length)
/-- A word's bytes with some of them laid over. -/
def stW (p : Nat) (b : List Nat) (s : DevS) : List Nat := spl (le 8 ((seenL (s.ls.getD (p / 64) zline)).getD (p % 64 / 8) 0)) (p % 8) (b.take (8 - p % 8))
def storeF : Nat → Nat → List Nat → DevS → Int × DevS
  | 0, _, _, s => (0, s)
  | f + 1, p, b, s => if b = [] then (0, s) else
    if doneE (layS (p - p % 8) (nm (stW p b s)) s) ≠ 0 then (doneE (layS (p - p % 8) (nm (stW p b s)) s), doneS (layS (p - p % 8) (nm (stW p b s)) s))
    else storeF f (p + min (8 - p % 8) b.length) (b.drop (8 - p % 8)) (doneS (layS (p - p % 8) (nm (stW p b s)) s))
/-- What Store answers, and the device behind it. -/
def sto (p : Int) (b : List Nat) (s : DevS) : Int × DevS := if rdy s.ls.length s.off p b.length ≠ 0 then (rdy s.ls.length s.off p b.length, s) else storeF b.length p.toNat b s
end Go.Vl

set_option linter.unusedVariables false
set_option linter.unusedSimpArgs false
namespace Go.Vl
open Go Go.Proofs
/-- What a slice that is made looks like. -/
theorem fn_sl {P : Program} {f : FuncId} {args : Array Value} {A A0 : SP} {k n : Nat} {xs : List Value} (h : Fn P f args A (fun r B => B = A0 * Sl k r n xs)) : Fn P f args A (fun r B => ∃ a c, r = .slice a n c ∧ n ≤ c ∧ B = A0 * Sl k (.slice a n c) n xs) := fun g w hs => by
  refine (h g w hs).mono ?_
  rintro e w' ⟨v, B, rfl, rfl, hB⟩
  obtain ⟨a, c, rfl, h1, _⟩ := sl_have hB
  exact ⟨_, _, rfl, ⟨a, c, rfl, h1, rfl⟩, hB⟩
theorem Ops_c {A R : SP} {C : SP → SP} {d : Nat} {s : DevS} (hc : Ct A (Dev d s) R C := by repeat (first | with_reducible exact ct_here | apply ct_left))  :
    Fn Try.prog 41 #[.pointer (some ⟨d, 0, none⟩)] A (fun r B => r = .int .i64 s.ops ∧ A = B) := by
  obtain ⟨rfl, hC⟩ := hc
  exact OpsD_f
/-- What Crash answers, and the device behind it. -/
def crS (keep : List Int) (s : DevS) : Int × DevS := if s.off then (5, s) else if lowB keep then (2, s) else (0, goesS keep s)
theorem Crash_c {A R : SP} {C : SP → SP} {d : Nat} {s : DevS} (hc : Ct A (Dev d s) R C := by repeat (first | with_reducible exact ct_here | apply ct_left)) {a : Option Addr} {c m : Nat} {keep : List Int} (hr : Rs R a (ints keep) := by repeat (first | assumption | with_reducible exact rs_sl | with_reducible exact rs_pt0 | exact rs_none | apply Rs.left)) (hk : ∀ k ∈ keep, k ≤ 9223372036854775807 := by assumption) (hm : keep.length = m := by assumption) (hkl : m ≤ 17592186044416 := by omega) :
    Fn Try.prog 28 #[.pointer (some ⟨d, 0, none⟩), .slice a m c] A (fun r B => ∃ e s2, crS keep s = (e, s2) ∧ r = .int .i64 e ∧ B = C (Dev d s2)) := by
  obtain ⟨rfl, hC⟩ := hc
  subst hm
  refine fn_have (p := Rd R a (ints keep)) (fun _ _ h => hr.rd h.left) fun hr => ?_
  exact (Crash_f R d c s a keep hr hk hkl).mono fun _ _ h => by
    refine ⟨(crS keep s).1, (crS keep s).2, rfl, ?_⟩
    rw [h.1, h.2, hC]; unfold crS
    by_cases h1 : s.off = true
    · simp [h1]
    · by_cases h2 : lowB keep = true <;> simp [h1, h2]
theorem Image_c {A R : SP} {C : SP → SP} {d : Nat} {s : DevS} (hc : Ct A (Dev d s) R C := by repeat (first | with_reducible exact ct_here | apply ct_left))  :
    Fn Try.prog 33 #[.pointer (some ⟨d, 0, none⟩)] A (fun r B => ∃ a c, r = .slice a (s.ls.length * 64) c ∧ s.ls.length * 64 ≤ c ∧ B = A * Sl 1 (.slice a (s.ls.length * 64) c) (s.ls.length * 64) (bys (imgS s))) := by
  obtain ⟨rfl, hC⟩ := hc
  exact fn_sl (ImageD_f.mono fun _ _ ⟨X, h, e⟩ => by rw [h, e])
theorem Load_c {A R : SP} {C : SP → SP} {d : Nat} {s : DevS} (hc : Ct A (Dev d s) R C := by repeat (first | with_reducible exact ct_here | apply ct_left)) {p m : Nat} (hoff : s.off = false := by assumption) (hpm : p + m ≤ s.ls.length * 64 := by omega) :
    Fn Try.prog 27 #[.pointer (some ⟨d, 0, none⟩), .int .i64 (p : Nat), .int .i64 (m : Nat)] A (fun r B => ∃ a c, r = .tuple #[.slice a m c, .int .i64 0] ∧ m ≤ c ∧ B = A * Sl 1 (.slice a m c) m (bys (((imgS s).drop p).take m))) := by
  obtain ⟨rfl, hC⟩ := hc
  refine fun g w hs => (LoadD_f (F := R) (d := d) hoff hpm rfl g w hs).mono ?_
  rintro e w' ⟨v, B, rfl, ⟨X, rfl, u, rfl, rfl⟩, hB⟩
  obtain ⟨a, c, rfl, h1, _⟩ := sl_have hB
  exact ⟨_, _, rfl, ⟨a, c, rfl, h1, rfl⟩, hB⟩
theorem LoadNo_c {A R : SP} {C : SP → SP} {d : Nat} {s : DevS} (hc : Ct A (Dev d s) R C := by repeat (first | with_reducible exact ct_here | apply ct_left)) {p m : Int} (hp : -9223372036854775808 ≤ p ∧ p ≤ 9223372036854775807 := by omega) (hm : -9223372036854775808 ≤ m ∧ m ≤ 9223372036854775807 := by omega) (hno : rdy s.ls.length s.off p m ≠ 0 := by assumption) :
    Fn Try.prog 27 #[.pointer (some ⟨d, 0, none⟩), .int .i64 p, .int .i64 m] A (fun r B => r = .tuple #[.slice none 0 0, .int .i64 (rdy s.ls.length s.off p m)] ∧ A = B) := by
  obtain ⟨rfl, hC⟩ := hc
  exact fn_devR0 fun _ A bl svs av hR => LoadNo_f A d bl svs av s hR p m hp hm hno
theorem New_c {A : SP} {n : Nat} {v : Int} (hv : v = ((n * 64 : Nat) : Int) := by omega) (hn : 0 < n := by omega) (hn2 : n ≤ 65536 := by omega) : Fn Try.prog 51 #[.int .i64 v] A (fun r B => ∃ d, r = .tuple #[.pointer (some ⟨d, 0, none⟩), .int .i64 0] ∧ B = A * Dev d (newS n)) := by
  subst hv; exact New_f A n hn hn2
theorem NewNo_c {A : SP} {p : Int} (hno : fitsB p = false := by assumption) (hp : -9223372036854775808 ≤ p ∧ p ≤ 9223372036854775807 := by omega) : Fn Try.prog 51 #[.int .i64 p] A (fun r B => r = .tuple #[.pointer none, .int .i64 80] ∧ A = B) := NewNo_f A p hp hno
theorem CopyBytes_c {A : SP} {a : Option Addr} {c m : Nat} {xs : List Nat} (hr : Rs A a (bys xs) := by repeat (first | assumption | with_reducible exact rs_sl | with_reducible exact rs_pt0 | exact rs_none | apply Rs.left)) (hm : xs.length = m := by first | assumption | rfl) (hl : m ≤ 140737488351232 := by omega) :
    Fn Try.prog 39 #[.slice a m c] A (fun r B => ∃ a' c', r = .slice a' m c' ∧ m ≤ c' ∧ B = A * Sl 1 (.slice a' m c') m (bys xs)) := by
  subst hm; exact fn_rs hr fun hr => fn_sl (CopyBytes_f A a c xs hr hl)
theorem EqBytes_c {A : SP} {a1 a2 : Option Addr} {c1 c2 n m : Nat} {xs ys : List Nat} (h1 : Rs A a1 (bys xs) := by repeat (first | assumption | with_reducible exact rs_sl | with_reducible exact rs_pt0 | exact rs_none | apply Rs.left)) (h2 : Rs A a2 (bys ys) := by repeat (first | assumption | with_reducible exact rs_sl | with_reducible exact rs_pt0 | exact rs_none | apply Rs.left)) (hx : xs.length = n := by first | assumption | rfl) (hy : ys.length = m := by first | assumption | rfl) (hn : n ≤ 4611686018427387904 := by omega) (hm : m ≤ 4611686018427387904 := by omega) :
    Fn Try.prog 22 #[.slice a1 n c1, .slice a2 m c2] A (fun r B => r = .bool (decide (xs = ys)) ∧ A = B) := by
  subst hx hy; exact fn_rs h1 fun h1 => fn_rs h2 fun h2 => EqBytes_f A a1 a2 c1 c2 xs ys h1 h2 hn hm
theorem Take64_c {A : SP} {a : Option Addr} {c m : Nat} {xs : List Nat} {p : Nat} (hr : Rs A a (bys xs) := by repeat (first | assumption | with_reducible exact rs_sl | with_reducible exact rs_pt0 | exact rs_none | apply Rs.left)) (hb : ∀ x ∈ xs, x < 256 := by assumption) (hm : xs.length = m := by first | assumption | rfl) (hp : p + 8 ≤ m := by omega) (hl : m ≤ 1099511627776 := by omega) :
    Fn Try.prog 98 #[.slice a m c, .int .i64 (p : Nat)] A (fun r B => r = .tuple #[.int .u64 ((nm ((xs.drop p).take 8) : Nat) : Int), .int .i64 0] ∧ A = B) := by
  subst hm; exact fn_rs hr fun hr => Take64_f A a c xs p hb hr hp hl
theorem Put64_c {A : SP} {a : Option Addr} {c m : Nat} {xs : List Nat} {v : Nat} (hr : Rs A a (bys xs) := by repeat (first | assumption | with_reducible exact rs_sl | with_reducible exact rs_pt0 | exact rs_none | apply Rs.left)) (hm : xs.length = m := by first | assumption | rfl) (hv : v < 18446744073709551616 := by omega) (hl : m ≤ 1099511627776 := by omega) :
    Fn Try.prog 99 #[.slice a m c, .int .u64 (v : Nat)] A (fun r B => ∃ a' c', r = .slice a' (m + 8) c' ∧ m + 8 ≤ c' ∧ B = A * Sl 1 (.slice a' (m + 8) c') (m + 8) (bys (xs ++ le 8 v))) := by
  subst hm; exact fn_rs hr fun hr => fn_sl ((Put64_f A a c xs v hr hv hl).mono fun _ _ ⟨u, e, h⟩ => by rw [e]; exact h)
end Go.Vl

set_option linter.unusedVariables false
set_option linter.unusedSimpArgs false
namespace Go.Vl
open Go Go.Proofs
/-- A device of which some lines are laid. -/
def fromP (n : Nat) (xs : List Nat) (i : Nat) : DevS := { newS n with ls := pm (fun j _ => lineF xs j) i (newS n).ls }
theorem fromP_zero (n : Nat) (xs : List Nat) : fromP n xs 0 = newS n := by unfold fromP; rw [pm_zero]
theorem fromP_all (n : Nat) (xs : List Nat) : fromP n xs n = fromS n xs := by
  have h : (newS n).ls.length = n := by simp [newS]
  have := pm_all (fun j _ => lineF xs j) (newS n).ls
  rw [h] at this
  unfold fromP fromS; rw [this]
theorem fromP_len (n : Nat) (xs : List Nat) (i : Nat) : (fromP n xs i).ls.length = n := by simp [fromP, pm_length, newS]
theorem fromP_at {n : Nat} (xs : List Nat) {i : Nat} (h : i < n) : (fromP n xs i).ls[i]'(by rw [fromP_len]; exact h) = zline := by
  simp only [fromP]
  rw [pm_at _ (by simpa [newS] using h)]; simp [newS]
theorem fromP_set {n : Nat} (xs : List Nat) {i : Nat} (h : i < n) : { fromP n xs i with ls := (fromP n xs i).ls.set i (lineF xs i) } = fromP n xs (i + 1) := by
  have hl : i < (newS n).ls.length := by simpa [newS] using h
  have := pm_set (fun j _ => lineF xs j) hl
  unfold fromP; simp only [this]
theorem fromP_wf {n : Nat} {xs : List Nat} {i : Nat} (h : 0 < n) (h2 : n ≤ 65536) (hb : ∀ x ∈ xs, x < 256) : WfD (fromP n xs i) :=
  ⟨by rw [fromP_len]; exact h, by rw [fromP_len]; exact h2, fun l hl => by
    obtain ⟨j, hj, rfl⟩ := List.mem_iff_getElem.1 hl
    simp only [fromP, pm, List.getElem_mapIdx]
    split
    · exact lineF_wf hb _
    · simp only [newS, List.getElem_replicate]; exact zline_wf, by simp [fromP, newS], by simp [fromP, newS], by simp [fromP, newS]⟩
def lineW (xs : List Nat) (i k : Nat) : List Nat := pm (fun k _ => wordF xs i k) k (List.replicate 8 0)
theorem lineW_zero (xs : List Nat) (i : Nat) : lineW xs i 0 = List.replicate 8 0 := pm_zero _ _
theorem lineW_set (xs : List Nat) (i : Nat) {k : Nat} (h : k < 8) : (lineW xs i k).set k (wordF xs i k) = lineW xs i (k + 1) := by
  have := pm_set (fun k _ => wordF xs i k) (l := List.replicate 8 0) (k := k) (by simpa using h)
  exact this
theorem lineW_all (xs : List Nat) (i : Nat) : (⟨[lineW xs i 8], -1⟩ : LineS) = lineF xs i := by
  have := pm_all (fun k _ => wordF xs i k) (List.replicate 8 0)
  rw [List.length_replicate] at this
  unfold lineF lineW; rw [this]
theorem From_c {F : SP} {a : Option Addr} {c m : Nat} {xs : List Nat} (n : Nat) (hr : Rs F a (bys xs) := by repeat (first | assumption | with_reducible exact rs_sl | with_reducible exact rs_pt0 | exact rs_none | apply Rs.left)) (hx : xs.length = m := by first | assumption | rfl) (hm : m = n * 64 := by omega) (hb : ∀ x ∈ xs, x < 256 := by assumption) (hn : 0 < n := by omega) (hn2 : n ≤ 65536 := by omega) :
    Fn Try.prog 42 #[.slice a m c] (F) (fun r B => ∃ d, r = .tuple #[.pointer (some ⟨d, 0, none⟩), .int .i64 0] ∧ B = F * Dev d (fromS n xs)) := by
  refine fn_enterW (args := [.slice a m c]) Try.func42 rfl Try.ntmps42 (by simp) ?_
  refine tc_seq ?_
  refine tc_reg ?_
  refine tl_v rfl (o_assign (by conv => lhs; whnf)) ?_
  refine tl_v rfl (o_assign (by conv => lhs; whnf)) ?_
  refine tl_nil ?_
  refine q_then_n ?_
  refine tc_seq ?_
  refine tc_reg ?_
  refine tl_v rfl (o_move (by conv => lhs; whnf)) ?_
  refine tl_v rfl (o_len Try.underlying28 rfl) ?_
  refine tl_c rfl (o_call bd51 rfl (New_c (n := n))) ?_
  rintro _ _ ⟨d12, rfl, rfl⟩
  refine tl_v rfl (o_move (by conv => lhs; whnf)) ?_
  refine tl_v rfl (o_extract rfl rfl) ?_
  refine tl_v rfl (o_extract rfl rfl) ?_
  refine tl_v rfl (o_assign (by conv => lhs; whnf)) ?_
  refine tl_v rfl (o_assign (by conv => lhs; whnf)) ?_
  refine tl_nil ?_
  refine q_then_n ?_
  refine tc_seq ?_
  refine tc_seq ?_
  refine tc_reg ?_
  refine tl_v rfl (o_move (by conv => lhs; whnf)) ?_
  refine tl_v rfl (o_nei rfl rfl) ?_
  refine tl_nil ?_
  refine q_then_n ?_
  refine tc_cond rfl (fun h => ?_) (fun h => ?_)
  · (exfalso; first | (revert h; simp; done) | (simp at h; done) | (revert h; simp; omega) | (simp at h; omega) | omega)
  · try simp only [decide_eq_true_eq, decide_eq_false_iff_not, Bool.not_eq_true', Bool.not_eq_false', Option.isNone_some, Option.isNone_none, Bool.not_true, Bool.not_false] at h
    refine tc_skip ?_
    refine q_then_n ?_
    refine tc_seq ?_
    refine tc_seq ?_
    refine tc_reg ?_
    refine tl_v rfl (o_move (by conv => lhs; whnf)) ?_
    refine tl_v rfl (o_nilCheck rfl) ?_
    refine tl_v rfl (o_fieldAddr (o := 0) Try.underlying97 rfl rfl sz95 rfl) ?_
    rw [← fromP_zero n xs]
    refine tl_dev fun hw bl svs av kvs hsv hkv => ?_
    refine tl_v rfl (o_load p95 rfl devC_d rfl) ?_
    refine tl_v rfl (o_len Try.underlying95 rfl) ?_
    rw [fromP_len]
    refine tl_pre (dev_back hw hsv hkv) ?_
    refine tl_v rfl (o_move (by conv => lhs; whnf)) ?_
    refine tl_nil ?_
    refine q_then_n ?_
    refine tc_block ?_
    refine tc_loop (fun kk ρ BB => ∃ (i : Nat), (i ≤ n) ∧ kk = n - i ∧ ρ 23 = .int .i64 (i : Nat) ∧ ρ 0 = .slice a m c ∧ ρ 4 = .pointer (some ⟨d12, 0, none⟩) ∧ ρ 22 = .int .i64 (n : Nat) ∧ BB = F * Dev d12 (fromP n xs i)) (m := n - (0)) ?_ ?_
    · exact ⟨0, by omega, rfl, rfl, rfl, rfl, rfl, rfl⟩
    · intro k ρ B hI
      obtain ⟨i, hp0, hkk1, hE23, hE0, hE4, hE22, rfl⟩ := hI
      refine tc_env (d := 23) hE23 ?_
      refine tc_env (d := 0) hE0 ?_
      refine tc_env (d := 4) hE4 ?_
      refine tc_env (d := 22) hE22 ?_
      clear hE23 hE0 hE4 hE22
      refine tc_seq ?_
      refine tc_reg ?_
      refine tl_v rfl (o_lss rfl rfl) ?_
      refine tl_nil ?_
      refine q_then_n ?_
      refine tc_seq ?_
      refine tc_cond rfl (fun h => ?_) (fun h => ?_)
      · try simp only [decide_eq_true_eq, decide_eq_false_iff_not, Bool.not_eq_true', Bool.not_eq_false', Option.isNone_some, Option.isNone_none, Bool.not_true, Bool.not_false] at h
        refine tc_skip ?_
        refine q_then_n ?_
        refine tc_seq ?_
        refine tc_block ?_
        refine tc_seq ?_
        refine tc_reg ?_
        refine tl_v rfl (o_move (by conv => lhs; whnf)) ?_
        refine tl_v rfl (o_assign (by conv => lhs; whnf)) ?_
        refine tl_nil ?_
        refine q_then_n ?_
        refine tc_seq ?_
        refine tc_reg ?_
        refine tl_v rfl (o_move (by conv => lhs; whnf)) ?_
        refine tl_v rfl (o_nilCheck rfl) ?_
        refine tl_v rfl (o_fieldAddr (o := 0) Try.underlying97 rfl rfl sz95 rfl) ?_
        refine tl_dev fun hw bl svs av kvs hsv hkv => ?_
        have hi : i < (fromP n xs i).ls.length := by rw [fromP_len]; omega
        obtain ⟨R, hf1, hf2⟩ := devC_focus (d := d12) (bl := bl) (kvs := kvs) (av := av) (s := fromP n xs i) hsv hi
        refine tl_eq (hf1 F) ?_
        rw [fromP_at xs (show i < n by omega)]
        refine tl_have (fun _ _ h => sl_have' rfl h) fun ⟨a', c', hvv, hn', hl', hrd⟩ => ?_
        rw [hvv] at hrd ⊢
        obtain ⟨b, o, rfl, _⟩ := hrd.some (by decide)
        have hsl : svs.length = n := by rw [hsv, fromP_len]
        have hcell : (lcs svs (fromP n xs i).ls)[i * 2 + 0]? = some (.slice (some ⟨b, o, none⟩) 1 c') := by rw [Nat.add_zero, lcs_sv hsv (by omega), hvv]; rfl
        rw [show (fromP n xs i).ls.length = n from fromP_len n xs i]
        refine tl_v rfl (by first | exact o_load p95 rfl (by repeat (first | with_reducible exact has_here | with_reducible exact has_pt | apply has_left)) rfl | exact o_loadC p95 rfl (by assumption)) ?_
        refine tl_v rfl (o_move (by conv => lhs; whnf)) ?_
        refine tl_v rfl (o_indexAddrN Try.underlying95 sz150 rfl rfl (by omega)) ?_
        refine tl_v rfl (o_fieldAddr (o := 0) Try.underlying150 rfl rfl sz148 rfl) ?_
        refine tl_v rfl (o_loadC p148 rfl (cell_of_has (by repeat (first | with_reducible exact has_here | with_reducible exact has_pt | apply has_left)) (by rw [Nat.zero_add]; exact hcell))) ?_
        refine tl_v rfl (o_indexAddrN (j := 0) Try.underlying148 sz147 rfl rfl (by decide)) ?_
        refine tl_v rfl (o_assign (by conv => lhs; whnf)) ?_
        refine tl_nil ?_
        refine q_then_n ?_
        refine tc_seq ?_
        refine tc_reg ?_
        refine tl_v rfl (o_move (by conv => lhs; whnf)) ?_
        refine tl_nil ?_
        refine q_then_n ?_
        refine tc_block ?_
        refine tc_loop (fun kk ρ BB => ∃ (k : Nat), (k ≤ 8) ∧ kk = 8 - k ∧ ρ 35 = .int .i64 (k : Nat) ∧ ρ 0 = .slice a m c ∧ ρ 4 = .pointer (some ⟨d12, 0, none⟩) ∧ ρ 6 = .int .i64 (i : Nat) ∧ ρ 7 = .pointer (some ⟨b, o, none⟩) ∧ ρ 22 = .int .i64 (n : Nat) ∧ ρ 23 = .int .i64 (i : Nat) ∧ BB = F * R * pt bl (cl (lcs svs (fromP n xs i).ls) 150) * pt d12 (cl (dcs bl n (fromP n xs i) av) 97) * Sl 8 (.slice (some ⟨b, o, none⟩) 1 c') 1 (wds (lineW xs i k))) (m := 8 - (0)) ?_ ?_
        · exact ⟨0, by omega, rfl, rfl, rfl, rfl, rfl, rfl, rfl, rfl, by rw [lineW_zero]; rfl⟩
        · intro k ρ B hI
          obtain ⟨k, hp0, hkk2, hE35, hE0, hE4, hE6, hE7, hE22, hE23, rfl⟩ := hI
          refine tc_env (d := 35) hE35 ?_
          refine tc_env (d := 0) hE0 ?_
          refine tc_env (d := 4) hE4 ?_
          refine tc_env (d := 6) hE6 ?_
          refine tc_env (d := 7) hE7 ?_
          refine tc_env (d := 22) hE22 ?_
          refine tc_env (d := 23) hE23 ?_
          clear hE35 hE0 hE4 hE6 hE7 hE22 hE23
          refine tc_seq ?_
          refine tc_reg ?_
          refine tl_v rfl (o_lss rfl rfl) ?_
          refine tl_nil ?_
          refine q_then_n ?_
          refine tc_seq ?_
          refine tc_cond rfl (fun h => ?_) (fun h => ?_)
          · try simp only [decide_eq_true_eq, decide_eq_false_iff_not, Bool.not_eq_true', Bool.not_eq_false', Option.isNone_some, Option.isNone_none, Bool.not_true, Bool.not_false] at h
            refine tc_skip ?_
            refine q_then_n ?_
            refine tc_seq ?_
            refine tc_block ?_
            refine tc_seq ?_
            refine tc_reg ?_
            refine tl_v rfl (o_move (by conv => lhs; whnf)) ?_
            refine tl_v rfl (o_assign (by conv => lhs; whnf)) ?_
            refine tl_nil ?_
            refine q_then_n ?_
            refine tc_regh (S := F * R * pt bl (cl (lcs svs (fromP n xs i).ls) 150) * pt d12 (cl (dcs bl n (fromP n xs i) av) 97)) mo (by repeat (first | with_reducible exact dr_refl | apply dr_keep | apply dr_drop)) ?_
            show TH _ _ _ _ _ 15 #[false, false, false, false, false, false, false, false, false, false, false, false, false, false, false] _ _
            refine th_take (i := 0) (listed' := #[true, false, false, false, false, false, false, false, false, false, false, false, false, false, false]) rfl (by kernel_rfl) (by kernel_rfl) (by kernel_rfl) rfl rfl (o_move (by conv => lhs; whnf)) ?_
            refine th_take (i := 1) (listed' := #[true, true, false, false, false, false, false, false, false, false, false, false, false, false, false]) rfl (by kernel_rfl) (by kernel_rfl) (by kernel_rfl) rfl rfl (o_move (by conv => lhs; whnf)) ?_
            refine th_take (i := 2) (listed' := #[true, true, true, false, false, false, false, false, false, false, false, false, false, false, false]) rfl (by kernel_rfl) (by kernel_rfl) (by kernel_rfl) rfl rfl (o_move (by conv => lhs; whnf)) ?_
            refine th_take (i := 3) (listed' := #[true, true, true, true, false, false, false, false, false, false, false, false, false, false, false]) rfl (by kernel_rfl) (by kernel_rfl) (by kernel_rfl) rfl rfl (o_move (by conv => lhs; whnf)) ?_
            refine th_take (i := 4) (listed' := #[true, true, true, true, true, false, false, false, false, false, false, false, false, false, false]) rfl (by kernel_rfl) (by kernel_rfl) (by kernel_rfl) rfl rfl (by first | exact o_mulI rfl rfl (by omega) | exact o_mul rfl rfl) ?_
            refine th_take (i := 5) (listed' := #[true, true, true, true, true, true, false, false, false, false, false, false, false, false, false]) rfl (by kernel_rfl) (by kernel_rfl) (by kernel_rfl) rfl rfl (o_move (by conv => lhs; whnf)) ?_
            refine th_take (i := 6) (listed' := #[true, true, true, true, true, true, true, false, false, false, false, false, false, false, false]) rfl (by kernel_rfl) (by kernel_rfl) (by kernel_rfl) rfl rfl (by first | exact o_mulI rfl rfl (by omega) | exact o_mul rfl rfl) ?_
            refine th_take (i := 7) (listed' := #[true, true, true, true, true, true, true, true, false, false, false, false, false, false, false]) rfl (by kernel_rfl) (by kernel_rfl) (by kernel_rfl) rfl rfl (by first | exact o_addI rfl rfl (by omega) | exact o_add rfl rfl) ?_
            refine th_env (d := 46) (v := .int .i64 ((i * 64 + k * 8 : Nat) : Int)) (rfl) ?_
            refine th_take (i := 12) (listed' := #[true, true, true, true, true, true, true, true, false, false, false, false, true, false, false]) rfl (by kernel_rfl) (by kernel_rfl) (by kernel_rfl) rfl rfl (o_nilCheck rfl) ?_
            refine th_one (i := 8) (by kernel_rfl) ?_
            refine oh_c (i := 8) (listed' := #[true, true, true, true, true, true, true, true, true, false, false, false, true, false, false]) rfl rfl rfl (o_call bd98 rfl (Take64_c)) ?_
            rintro _ _ ⟨rfl, rfl⟩
            refine ⟨by repeat (first | with_reducible exact dr_refl | apply dr_keep | apply dr_drop), ?_⟩
            refine th_take (i := 9) (listed' := #[true, true, true, true, true, true, true, true, true, true, false, false, true, false, false]) rfl (by kernel_rfl) (by kernel_rfl) (by kernel_rfl) rfl rfl (o_move (by conv => lhs; whnf)) ?_
            refine th_take (i := 10) (listed' := #[true, true, true, true, true, true, true, true, true, true, true, false, true, false, false]) rfl (by kernel_rfl) (by kernel_rfl) (by kernel_rfl) rfl rfl (o_extract rfl rfl) ?_
            refine th_take (i := 11) (listed' := #[true, true, true, true, true, true, true, true, true, true, true, true, true, false, false]) rfl (by kernel_rfl) (by kernel_rfl) (by kernel_rfl) rfl rfl (o_extract rfl rfl) ?_
            refine th_take (i := 13) (listed' := #[true, true, true, true, true, true, true, true, true, true, true, true, true, true, false]) rfl (by kernel_rfl) (by kernel_rfl) (by kernel_rfl) rfl rfl (o_indexAddrAN1 (j := k) Try.underlying147 sz53 rfl rfl (by omega)) ?_
            refine th_one (i := 14) (by kernel_rfl) ?_
            refine oh_u (i := 14) (listed' := #[true, true, true, true, true, true, true, true, true, true, true, true, true, true, true]) rfl rfl rfl (o_storeSlK (i := k) (k := 8) (m := 1) (xs := wds (lineW xs i k)) (ys := wds ((lineW xs i k).set k (wordF xs i k))) sz53 rfl rfl rfl (by omega) (wds_set' _ _ _) (by repeat (first | with_reducible exact foc_here | apply foc_left))) (by repeat (first | with_reducible exact dr_refl | apply dr_keep | apply dr_drop)) ?_
            refine th_done (by kernel_rfl) ?_
            refine q_block_n (q_then_n ?_)
            refine tc_reg ?_
            refine tl_v rfl (by first | exact o_addI rfl rfl (by omega) | exact o_add rfl rfl) ?_
            refine tl_v rfl (o_move (by conv => lhs; whnf)) ?_
            refine tl_nil ?_
            refine q_then_n ?_
            exact ⟨_, by omega, k + 1, by omega, rfl, rfl, rfl, rfl, rfl, rfl, rfl, rfl, by rw [← lineW_set xs i (by omega)]⟩
          · try simp only [decide_eq_true_eq, decide_eq_false_iff_not, Bool.not_eq_true', Bool.not_eq_false', Option.isNone_some, Option.isNone_none, Bool.not_true, Bool.not_false] at h
            refine tc_exit ?_
            refine q_then_e (q_then_e (q_block_x (q_block_n (q_then_n ?_))))
            refine tc_reg ?_
            obtain rfl : k = 8 := by omega
            have hfin := hf2 F (.slice (some ⟨b, o, none⟩) 1 c') (lineF xs i)
            refine tl_eq (A' := F * DevC d12 bl (svs.set i (.slice (some ⟨b, o, none⟩) 1 c')) av kvs { fromP n xs i with ls := (fromP n xs i).ls.set i (lineF xs i) }) ?_ ?_
            · rw [← hfin, ← lineW_all]
              have e1 : lcs (svs.set i (.slice (some ⟨b, o, none⟩) 1 c')) ((fromP n xs i).ls.set i ⟨[lineW xs i 8], -1⟩) = lcs svs (fromP n xs i).ls := by
                rw [← lcs_set_sv (⟨[lineW xs i 8], -1⟩ : LineS) hsv hi (by rw [fromP_at xs (show i < n by omega)]; rfl)]
                have h1 : i * 2 < (lcs svs (fromP n xs i).ls).length := by rw [lcs_length hsv]; omega
                have h2 := List.getElem?_eq_getElem h1
                rw [Nat.add_zero] at hcell
                rw [hcell] at h2
                rw [Option.some.inj h2]
                exact set_getElem h1
              rw [e1, fromP_len]; rfl
            refine tl_pre (dev_back (by rw [fromP_set xs (show i < n by omega)]; exact fromP_wf hn hn2 hb) (by simp [hsv]) hkv) ?_
            rw [fromP_set xs (show i < n by omega)]
            refine tl_v rfl (by first | exact o_addI rfl rfl (by omega) | exact o_add rfl rfl) ?_
            refine tl_v rfl (o_move (by conv => lhs; whnf)) ?_
            refine tl_nil ?_
            refine q_then_n ?_
            exact ⟨_, by omega, i + 1, by omega, rfl, rfl, rfl, rfl, rfl, rfl⟩
      · try simp only [decide_eq_true_eq, decide_eq_false_iff_not, Bool.not_eq_true', Bool.not_eq_false', Option.isNone_some, Option.isNone_none, Bool.not_true, Bool.not_false] at h
        refine tc_exit ?_
        refine q_then_e (q_then_e (q_block_x (q_then_n ?_)))
        refine tc_seq ?_
        refine tc_reg ?_
        refine tl_v rfl (o_move (by conv => lhs; whnf)) ?_
        refine tl_v rfl (o_assign (by conv => lhs; whnf)) ?_
        refine tl_v rfl (o_assign (by conv => lhs; whnf)) ?_
        refine tl_nil ?_
        refine q_then_n ?_
        refine tc_ret ?_
        obtain rfl : i = n := by omega
        rw [fromP_all]
        exact ⟨_, _, res2 rfl rfl rfl, fun _ _ h => h, d12, rfl, rfl⟩
end Go.Vl

set_option linter.unusedVariables false
set_option linter.unusedSimpArgs false
namespace Go.Vl
open Go Go.Proofs
/-- Arms, to be read. -/
structure RdA (A : SP) (a : Option Addr) (kvs : List Value) (ars : List (Int × List Int)) : Prop where
  rd : Rs A a (acs kvs ars)
  len : kvs.length = ars.length
  keep : ∀ i (h : i < ars.length), ∃ b c, kvs[i]? = some (.slice b ars[i].2.length c) ∧ ars[i].2.length ≤ c ∧ Rs A b (ints ars[i].2)
theorem RdA.left {A X : SP} {a : Option Addr} {kvs : List Value} {ars : List (Int × List Int)} (h : RdA A a kvs ars) : RdA (A * X) a kvs ars :=
  ⟨h.rd.left, h.len, fun i hi => by obtain ⟨b, c, e, hc, hr⟩ := h.keep i hi; exact ⟨b, c, e, hc, hr.left⟩⟩
theorem sl_share {k n : Nat} {v : Value} {xs : List Value} {R : SP} {g : Gh} {w : World} (hs : sat g w (R * Sl k v n xs)) : sat g w (R * SlR k v n xs) := by
  obtain ⟨hl, ⟨e1, e2, h⟩ | ⟨b, off, cap, l, E, e1, h1, h2, h3, h⟩⟩ := sl_iff.1 hs
  · obtain ⟨x, ha, hx⟩ := h.hp
    refine ⟨h.os, h.tape, h.out, x, ⟨x, fun _ => none, fun _ => .inr (.inl rfl), ?_, ha, hl, .inl ⟨e1, e2, rfl⟩⟩, hx⟩
    funext b; simp [Hp.un]
  · have h' := h.share
    obtain ⟨_, ⟨x, y, hd, rfl, ha, hb⟩, hx⟩ := h'.hp
    exact ⟨h'.os, h'.tape, h'.out, _, ⟨x, y, hd, rfl, ha, hl, .inr ⟨b, off, cap, l, E, e1, h1, h2, h3, hb⟩⟩, hx⟩
def badA (x : Int × List Int) : Bool := decide (x.1 < 1) || lowB x.2
/-- What Arm answers, and the device behind it. -/
def armS (ars : List (Int × List Int)) (s : DevS) : Int × DevS := if s.off then (5, s) else if ars.any badA then (2, s) else if 64 < ars.length + s.arms.length then (4, s) else (0, { s with arms := s.arms ++ ars })
theorem low_nn {l : List Int} (h : lowB l = false) : ∀ k ∈ l, 0 ≤ k := fun k hk => by
  unfold lowB at h
  rw [List.any_eq_false] at h
  have := h k hk
  simpa using this
end Go.Vl

set_option linter.unusedVariables false
set_option linter.unusedSimpArgs false
namespace Go.Vl
open Go Go.Proofs
theorem Size_c {A R : SP} {C : SP → SP} {d : Nat} {s : DevS} (hc : Ct A (Dev d s) R C := by repeat (first | with_reducible exact ct_here | apply ct_left)) : Fn Try.prog 94 #[.pointer (some ⟨d, 0, none⟩)] A (fun r B => r = .int .i64 ((s.ls.length : Int) * 64) ∧ A = B) := by
  obtain ⟨rfl, hC⟩ := hc
  exact fn_devR0 fun _ A bl svs av hR => Size_f A d bl s.ls.length s av hR.d hR.wf.pos hR.wf.top
/-- Lines of which the first are copied. -/
def cpB (ws : List Value) (ls : List LineS) (i : Nat) : List Value := lcs (ws ++ List.replicate (ls.length - i) (.slice none 0 0)) (ls.take i ++ List.replicate (ls.length - i) ⟨[], 0⟩)
end Go.Vl

set_option linter.unusedVariables false
set_option linter.unusedSimpArgs false
namespace Go.Vl
open Go Go.Proofs
/-! ### Cells of records, k each -/
section
variable {α : Type} {f : α → List Value} {k : Nat}
theorem fm_length : ∀ {l : List α} (_ : ∀ a ∈ l, (f a).length = k), (l.flatMap f).length = l.length * k
  | [], _ => by simp
  | a :: l, h => by
    rw [List.flatMap_cons, List.length_append, h a (by simp), fm_length (fun x hx => h x (List.mem_cons_of_mem _ hx)), List.length_cons, Nat.add_mul]; omega
theorem fm_drop : ∀ {l : List α} {i : Nat} (_ : ∀ a ∈ l, (f a).length = k), (l.flatMap f).drop (i * k) = (l.drop i).flatMap f
  | [], i, _ => by simp
  | a :: l, 0, _ => by simp
  | a :: l, i + 1, h => by
    have e : (i + 1) * k = (f a).length + i * k := by rw [h a (by simp), Nat.add_mul]; omega
    rw [e, List.flatMap_cons, List.drop_length_add_append, fm_drop (fun x hx => h x (List.mem_cons_of_mem _ hx)), List.drop_succ_cons]
theorem fm_take : ∀ {l : List α} {i : Nat} (_ : ∀ a ∈ l, (f a).length = k), (l.flatMap f).take (i * k) = (l.take i).flatMap f
  | [], i, _ => by simp
  | a :: l, 0, _ => by simp
  | a :: l, i + 1, h => by
    have e : (i + 1) * k = (f a).length + i * k := by rw [h a (by simp), Nat.add_mul]; omega
    rw [e, List.flatMap_cons, List.take_length_add_append, fm_take (fun x hx => h x (List.mem_cons_of_mem _ hx)), List.take_succ_cons, List.flatMap_cons]
theorem fm_atj {l : List α} {i j p : Nat} (h : ∀ a ∈ l, (f a).length = k) (hi : i < l.length) (hj : j < k) (hp : p = i * k + j) : (l.flatMap f)[p]? = (f l[i])[j]? := by
  subst hp
  rw [← List.getElem?_drop, fm_drop h, List.drop_eq_getElem_cons hi, List.flatMap_cons, List.getElem?_append_left (by rw [h _ (List.getElem_mem hi)]; exact hj)]
theorem fm_spl {l : List α} {i : Nat} {y : α} (h : ∀ a ∈ l, (f a).length = k) (hi : i < l.length) (hy : (f y).length = k) : splice (l.flatMap f) (i * k) (f y) = (l.set i y).flatMap f := by
  have hl := fm_length h
  have h1 : i * k + k ≤ l.length * k := by have : (i + 1) * k ≤ l.length * k := Nat.mul_le_mul_right k hi; rw [Nat.add_mul] at this; omega
  have e2 : i * k + (f y).length = (i + 1) * k := by rw [hy, Nat.add_mul]; omega
  rw [splice_eq (by rw [hy, hl]; exact h1), fm_take h, e2, fm_drop h, List.set_eq_take_append_cons_drop, if_pos hi, List.flatMap_append, List.flatMap_cons, List.append_assoc]
theorem fm_sn (l : List α) (a : α) : l.flatMap f ++ f a = (l ++ [a]).flatMap f := by simp
end
/-! ### Iterated assertions -/
section
variable {α : Type} {f : α → SP}
def Bs (f : α → SP) : List α → SP
  | [] => emp
  | a :: l => Bs f l * f a
theorem bs_nil : Bs f [] = emp := rfl
theorem bs_cons (a : α) (l : List α) : Bs f (a :: l) = Bs f l * f a := rfl
theorem bs_append : ∀ (l m : List α), Bs f (l ++ m) = Bs f l * Bs f m
  | [], m => (emp_star _).symm
  | a :: l, m => by rw [List.cons_append, bs_cons, bs_cons, bs_append l m, star_swap]
theorem bs_snoc (l : List α) (a : α) : Bs f (l ++ [a]) = Bs f l * f a := by rw [bs_append, bs_cons, bs_nil, emp_star]
theorem bs_get : ∀ {l : List α} {i : Nat} (hi : i < l.length), ∃ R, Bs f l = R * f l[i] ∧ ∀ y, Bs f (l.set i y) = R * f y
  | a :: l, 0, _ => ⟨Bs f l, rfl, fun _ => rfl⟩
  | a :: l, i + 1, hi => by
    obtain ⟨R, h1, h2⟩ := bs_get (l := l) (i := i) (by simpa using hi)
    refine ⟨R * f a, ?_, fun y => ?_⟩
    · simp only [bs_cons, List.getElem_cons_succ]; rw [h1, star_swap]
    · simp only [List.set_cons_succ, bs_cons]; rw [h2, star_swap]
end
theorem rs_cutC {A : SP} {a : Option Addr} {cap l : Nat} {X : List Nat} (h : Rs A a (bys X)) (hx : X.length ≤ cap) : Rs A (cutAddr a cap l 1) (bys (X.drop l)) := by
  have := rs_cut (l := l) (k := 1) (cap := cap) h (by rw [bys_length]; omega)
  rw [Nat.mul_one] at this
  unfold bys at this ⊢
  rwa [← List.map_drop] at this
theorem bys_takeG (xs : List Nat) (n : Nat) : (bys xs).take n = bys (xs.take n) := by simp [bys, List.map_take]
theorem rs_mid {A : SP} {a : Option Addr} {cap l m : Nat} {X : List Nat} (h : Rs A a (bys X)) (hx : X.length ≤ cap) : Rs A (cutAddr a cap l 1) (bys ((X.drop l).take m)) := by
  rw [← bys_takeG]; exact (rs_cutC h hx).sub m
end Go.Vl

set_option linter.unusedVariables false
set_option linter.unusedSimpArgs false
namespace Go.Vl
open Go Go.Proofs
/-! ### Structs of ints that are held against each other -/
def intF (P : Program) (f : Field) : Bool := f.name != "_" && plainE P f.type && (match P.underlying f.type with | some (.int _) => true | _ => false)
/-- A struct whose fields are ints, one a cell. -/
def flatI (P : Program) (fs : Array Field) (n : Nat) : Bool := ((fs.toList.map fun f => f.offset) == List.range n) && fs.toList.all (intF P)
theorem range_eq {n : Nat} {xs ys : List Value} {l m : List Int} (hl : l.length = n) (hm : m.length = n) : ((List.range n).all fun i => l[i]? == m[i]?) = decide (l = m) := by
  by_cases e : l = m
  · subst e; simp
  · rw [decide_eq_false e]
    cases hb : (List.range n).all fun i => l[i]? == m[i]? with
    | false => rfl
    | true =>
      exfalso; apply e
      apply List.ext_getElem?
      intro i
      by_cases hi : i < n
      · rw [List.all_eq_true] at hb
        have := hb i (by simp; exact hi)
        simpa using this
      · rw [List.getElem?_eq_none (by omega), List.getElem?_eq_none (by omega)]
theorem eqst_run {P : Program} {t : TypeId} {fs : Array Field} {w : World} {n : Nat} (hu : P.underlying t = some (.struct fs)) (hst : P.stoodInHeld t = false) (hf : flatI P fs n = true) (l m : List Int) (hl : l.length = n) (hm : m.length = n) :
    (Op.equal t (.agg (ints l).toArray) (.agg (ints m).toArray)).run P w = .ok (decide (l = m)) w := by
  show (Op.equalIn (9999 + 1) t _ _).run P w = _
  unfold flatI at hf
  rw [Bool.and_eq_true, beq_iff_eq] at hf
  obtain ⟨ho, hall⟩ := hf
  have hlt : ∀ f ∈ fs.toList, f.offset < n := fun f hf => by
    have : f.offset ∈ fs.toList.map (fun f => f.offset) := List.mem_map_of_mem hf
    rw [ho] at this; simpa using this
  rw [Op.equalIn, run_bind (run_und hu)]
  simp only []
  rw [run_bind (w' := w) (a := P) (by rfl), if_neg (by rw [hst]; decide)]
  have hpart : ∀ (f : Field), f ∈ fs.toList → ∀ (zs : List Int), zs.length = n → (part f.type (ints zs).toArray f.offset).run P w = .ok (.int .i64 (zs[f.offset]?.getD 0)) w := fun f hf zs hz => by
    have h := hlt f hf
    have hp : plainE P f.type = true := by have := List.all_eq_true.1 hall f hf; simp [intF] at this; exact this.1.2
    unfold part
    rw [run_bind (run_isAgg_f hp)]
    have h' : f.offset < zs.length := by omega
    simp [ints, i64, h', pure]
  have heq : ∀ (f : Field), f ∈ fs.toList → ∀ (a b : Int), (Op.equalIn 9999 f.type (.int .i64 a) (.int .i64 b)).run P w = .ok (a == b) w := fun f hf a b => by
    have := List.all_eq_true.1 hall f hf
    simp only [intF, Bool.and_eq_true] at this
    obtain ⟨_, h2⟩ := this
    show (Op.equalIn (9998 + 1) f.type (.int .i64 a) (.int .i64 b)).run P w = _
    cases hq : P.underlying f.type with
    | none => simp [hq] at h2
    | some d =>
      rw [hq] at h2
      cases d <;> simp at h2
      rw [Op.equalIn, run_bind (run_und hq)]; simp [pure]
  have hname : ∀ f ∈ fs.toList, f.name ≠ "_" := fun f hf => by have := List.all_eq_true.1 hall f hf; simp [intF] at this; exact this.1.1
  rw [← Array.forIn_toList]
  have hall' := run_all (P := P) (w := w) (fun (f : Field) __s => 
      if f.name ≠ "_" then do
        let a ← part f.type (ints l).toArray f.offset
        let b ← part f.type (ints m).toArray f.offset
        let c ← Op.equalIn 9999 f.type a b
        if (!c) = true then pure (ForInStep.done (some false, ())) else pure (ForInStep.yield (none, ()))
      else pure (ForInStep.yield (none, ()))) (fun f => l[f.offset]? == m[f.offset]?) fs.toList (fun f hf => by
    rw [if_pos (hname f hf), run_bind (hpart f hf l hl), run_bind (hpart f hf m hm), run_bind (heq f hf _ _)]
    have h := hlt f hf
    have h1 : l[f.offset]? = some (l[f.offset]'(by omega)) := List.getElem?_eq_getElem _
    have h2 : m[f.offset]? = some (m[f.offset]'(by omega)) := List.getElem?_eq_getElem _
    rw [h1, h2]
    by_cases hc : (l[f.offset]'(by omega)) = (m[f.offset]'(by omega)) <;> simp [hc, pure])
  rw [run_bind hall']
  have e : (fs.toList.all fun f => l[f.offset]? == m[f.offset]?) = decide (l = m) := by
    rw [← range_eq (xs := []) (ys := []) hl hm, ← ho, List.all_map]; rfl
  rw [e]
  by_cases h : l = m <;> simp [h, pure]
section
variable {P : Program} {n : Nat} {ρ : Env} {A : SP} {dst : Option Tmp} {ty : TypeId} {pos : String} {after : Array Edge} {gd : Option (Nat × Bool)}
theorem o_eqst {t t' : TypeId} {x y : Operand} {k : Nat} {fs : Array Field} {l m : List Int} (hu : P.underlying t = some (.struct fs)) (hst : P.stoodInHeld t = false) (hf : flatI P fs k = true) (hge : P.eqGuardType P.depth t = false)
    (hx : ev n ρ x = .agg (ints l).toArray) (hy : ev n ρ y = .agg (ints m).toArray) (h1 : l.length = k) (h2 : m.length = k) :
    OpV P n ρ A ⟨dst, .binOp .eql t x y t', ty, pos, after, gd⟩ (.bool (decide (l = m))) := opv_of fun w => by
  simp only [execOp, hx, hy]
  rw [run_bind (w' := w) (a := .bool (decide (l = m)))]
  · rfl
  rw [run_bind (w' := w) (a := ())]
  · show (do pure (Value.bool (← Op.equal t (.agg (ints l).toArray) (.agg (ints m).toArray))) : Sem Value).run P w = _
    rw [run_bind (eqst_run hu hst hf l m h1 h2)]; rfl
  · simp [eqGuard, hge, program, bind, Sem.bind, Sem.run, pure]
theorem o_nest {t t' : TypeId} {x y : Operand} {k : Nat} {fs : Array Field} {l m : List Int} (hu : P.underlying t = some (.struct fs)) (hst : P.stoodInHeld t = false) (hf : flatI P fs k = true) (hge : P.eqGuardType P.depth t = false)
    (hx : ev n ρ x = .agg (ints l).toArray) (hy : ev n ρ y = .agg (ints m).toArray) (h1 : l.length = k) (h2 : m.length = k) :
    OpV P n ρ A ⟨dst, .binOp .neq t x y t', ty, pos, after, gd⟩ (.bool (!decide (l = m))) := opv_of fun w => by
  simp only [execOp, hx, hy]
  rw [run_bind (w' := w) (a := .bool (!decide (l = m)))]
  · rfl
  rw [run_bind (w' := w) (a := ())]
  · show (do pure (Value.bool (!(← Op.equal t (.agg (ints l).toArray) (.agg (ints m).toArray)))) : Sem Value).run P w = _
    rw [run_bind (eqst_run hu hst hf l m h1 h2)]; rfl
  · simp [eqGuard, hge, program, bind, Sem.bind, Sem.run, pure]
/-- Strings. -/
theorem o_eqstr {t t' : TypeId} {x y : Operand} {a b : ByteArray} (hx : ev n ρ x = .string a) (hy : ev n ρ y = .string b) :
    OpV P n ρ A ⟨dst, .binOp .eql t x y t', ty, pos, after, gd⟩ (.bool (a.toList == b.toList)) :=
  opv_of fun w => by
  simp only [execOp, hx, hy]
  rw [run_bind (w' := w) (a := .bool (a.toList == b.toList))]
  · rfl
  rw [run_bind (w' := w) (a := ())]
  · simp [binOp, Op.stringOp, pure]
  · rfl
/-! ### A slice as an array -/
theorem o_s2a {t e : TypeId} {x : Operand} {k m c : Nat} {a : Option Addr} (hu : P.underlying t = some (.array k e)) (hx : ev n ρ x = .slice a m c) (hk : k ≤ m) :
    OpV P n ρ A ⟨dst, .sliceToArrayPointer t x, ty, pos, after, gd⟩ (.pointer a) := opv_of fun w => by
  simp only [execOp, hx]
  rw [run_bind (w' := w) (a := .pointer a)]
  · rfl
  unfold Instr.arrayAt
  rw [run_bind (run_und hu)]
  simp [Nat.not_lt.2 hk, pure]
/-! ### 32 bits -/
theorem o_compl32 {t : TypeId} {x : Operand} {a : Nat} (hx : ev n ρ x = .int .u32 (a : Nat)) (ha : a < 4294967296) : OpV P n ρ A ⟨dst, .unOp .xor t x, ty, pos, after, gd⟩ (.int .u32 ((a ^^^ 4294967295 : Nat) : Int)) := (o_compl hx).cast (by
  have h1 : (BitVec.ofInt IntKind.u32.bits (if IntKind.u32.signed then -1 else IntKind.u32.max)).toNat = 4294967295 := by decide
  rw [BitVec.toNat_xor, h1, bv_of .u32 a (by simpa [IntKind.bits] using ha), Nat.xor_comm, wrap_fit .u32 rfl _ (Nat.xor_lt_two_pow (by simpa [IntKind.bits] using ha) (by decide))])
theorem o_neg32 {t : TypeId} {x : Operand} {a : Nat} (hx : ev n ρ x = .int .u32 (a : Nat)) (ha : a < 2) : OpV P n ρ A ⟨dst, .unOp .neg t x, ty, pos, after, gd⟩ (.int .u32 ((a * 4294967295 : Nat) : Int)) := (o_neg hx).cast (by
  have : a = 0 ∨ a = 1 := by omega
  rcases this with rfl | rfl <;> rfl)
/-! ### Bytes that may be a string's -/
theorem o_cpyS {t e : TypeId} {x : Operand} {b m c : Nat} {l : List Value} {E : TypeId} {A' : SP} (hu : P.underlying t = some (.slice e)) (he : P.underlying e = some (.int .u8)) (hx : ev n ρ x = .slice (some ⟨b, 0, none⟩) m c)
    (hd : Upd A b (cl l E) (.cells l.toArray E (l.length, l.length + 1)) A') : OpX P n ρ A ⟨dst, .convert t t x, ty, pos, after, gd⟩ (fun v B => v = .slice (some ⟨b, 0, none⟩) m c ∧ B = A') := fun g w hs => by
  have h := hd.has g w hs
  refine ⟨_, w.freeze ⟨b, l.length, none⟩ 1, A', ?_, hd.sat hs (fun k => ?_) rfl rfl rfl, rfl, rfl⟩
  · simp only [execOp, hx, convert]
    rw [run_bind (a := .slice (some ⟨b, 0, none⟩) m c) (w' := w.freeze ⟨b, l.length, none⟩ 1)]
    · rfl
    rw [run_bind (run_und hu), run_bind (run_und hu)]
    simp only []
    rw [run_bind (run_und he)]
    have hsh : w.shape? b = some (E, l.length) := by unfold World.shape?; rw [h]; simp [cl]
    simp [markStringish, shape, freeze, Sem.run, bind, Sem.bind, hsh, pure]
  · show (World.freeze w ⟨b, l.length, none⟩ 1).heap[k]? = _
    unfold World.freeze
    rw [if_neg (by decide)]
    show (w.heap.modify b _)[k]? = _
    rw [Array.getElem?_modify]
    by_cases hk : b = k
    · subst hk; rw [if_pos rfl, if_pos rfl, h]; simp [cl]
    · rw [if_neg hk, if_neg (Ne.symm hk)]
end
theorem rs_mk {R : SP} {b : Nat} {l : List Value} {E : TypeId} {fz : Nat × Nat} : Rs (R * pt b (.cells l.toArray E fz)) (some ⟨b, 0, none⟩) l := fun g w hs i v hv => by
  have h := has_here g w hs
  refine ⟨b, 0, rfl, ?_⟩
  simp only [World.cell?, h, Nat.zero_add, List.getElem?_toArray]
  simpa using hv
/-- A string of bytes. -/
def sob (xs : List Nat) : ByteArray := ⟨(xs.map fun n => UInt8.ofNat n).toArray⟩
theorem o_b2s {P : Program} {n : Nat} {ρ : Env} {A : SP} {dst : Option Tmp} {ty : TypeId} {pos : String} {after : Array Edge} {gd : Option (Nat × Bool)} {s t e : TypeId} {x : Operand} {a : Option Addr} {m c : Nat} {xs : List Nat} (hs : P.underlying s = some (.slice e)) (he : P.underlying e = some (.int .u8)) (ht : P.underlying t = some .string)
    (hx : ev n ρ x = .slice a m c) (hr : Rs A a (bys xs)) (hm : xs.length = m) (h0 : 0 < m) : OpV P n ρ A ⟨dst, .convert s t x, ty, pos, after, gd⟩ (.string (sob xs)) := fun g w hsat => by
  have h00 : (bys xs)[0]? = some ((bys xs)[0]'(by rw [bys_length]; omega)) := List.getElem?_eq_getElem _
  obtain ⟨b, o, rfl, _⟩ := hr g w hsat 0 _ h00
  simp only [execOp, hx]
  rw [run_bind (w' := w) (a := .string (sob xs))]
  · rfl
  rw [run_convert_bytes_arg w s e hs he b o m c (xs.map fun (q : Nat) => (q : Int)) (by simp [hm]) (fun i hi => ?_) t ht]
  · simp [strOfNums, sob, List.map_map, Function.comp_def]
  · have hi' : i < xs.length := by omega
    have h1 := bys_at hi'
    obtain ⟨b', o', e', hc⟩ := hr g w hsat i _ h1
    simp only [Option.some.injEq, Addr.mk.injEq, and_true] at e'
    obtain ⟨rfl, rfl⟩ := e'
    rw [hc]
    simp [hi']
end Go.Vl

set_option linter.unusedVariables false
set_option linter.unusedSimpArgs false
namespace Go.Vl
open Go Go.Proofs
/-! ### The sum's law -/
def crs (r : Nat) : Nat := (r / 2) ^^^ (2197175160 * (r % 2))
def crk : Nat → Nat → Nat
  | 0, r => r
  | k + 1, r => crs (crk k r)
def crL (r : Nat) : List Nat → Nat
  | [] => r
  | x :: xs => crL (crk 8 (r ^^^ x)) xs
def crc (s : Nat) (xs : List Nat) : Nat := crL (s ^^^ 4294967295) xs ^^^ 4294967295
theorem x32 {a b : Nat} (ha : a < 4294967296) (hb : b < 4294967296) : a ^^^ b < 4294967296 := Nat.xor_lt_two_pow (n := 32) ha hb
theorem crs_lt {r : Nat} (h : r < 4294967296) : crs r < 4294967296 := x32 (by omega) (by omega)
theorem crk_lt {r : Nat} (h : r < 4294967296) : ∀ k, crk k r < 4294967296
  | 0 => h
  | k + 1 => crs_lt (crk_lt h k)
theorem crL_lt : ∀ {xs : List Nat} {r : Nat}, r < 4294967296 → (∀ x ∈ xs, x < 256) → crL r xs < 4294967296
  | [], _, h, _ => h
  | x :: xs, r, h, hb => crL_lt (xs := xs) (crk_lt (x32 h (by have := hb x (by simp); omega)) 8) fun y hy => hb y (by simp [hy])
theorem crL_snoc : ∀ {xs : List Nat} {r x : Nat}, crL r (xs ++ [x]) = crk 8 (crL r xs ^^^ x)
  | [], _, _ => rfl
  | y :: ys, r, x => by show crL _ (ys ++ [x]) = _; rw [crL_snoc]; rfl
theorem crL_take {xs : List Nat} {r i : Nat} (h : i < xs.length) : crL r (xs.take (i + 1)) = crk 8 (crL r (xs.take i) ^^^ xs[i]) := by
  rw [List.take_succ_eq_append_getElem h, crL_snoc]
theorem crc_lt {s : Nat} {xs : List Nat} (h : s < 4294967296) (hb : ∀ x ∈ xs, x < 256) : crc s xs < 4294967296 := x32 (crL_lt (x32 h (by decide)) hb) (by decide)
theorem tk_b {xs : List Nat} {i : Nat} (hb : ∀ x ∈ xs, x < 256) : ∀ x ∈ xs.take i, x < 256 := fun x hx => hb x (List.mem_of_mem_take hx)
theorem and1 (r : Nat) : r &&& 1 = r % 2 := Nat.and_one_is_mod r
theorem crs_and (r : Nat) : (r / 2) ^^^ (2197175160 &&& (r % 2 * 4294967295)) = crs r := by
  unfold crs
  have : r % 2 = 0 ∨ r % 2 = 1 := by omega
  rcases this with h | h <;> rw [h] <;> rfl
theorem crk_and (k c : Nat) : (crk k c / 2 ^ 1) ^^^ (2197175160 &&& (crk k c % 2 * 4294967295)) = crk (k + 1) c := crs_and _
theorem crk_0 (c : Nat) : c = crk 0 c := rfl
theorem crL_0 (c : Nat) (xs : List Nat) : c = crL c (xs.take 0) := by rw [List.take_zero]; rfl
theorem crc_of (s : Nat) (xs : List Nat) {m : Nat} (h : xs.length = m) : crL (s ^^^ 4294967295) (xs.take m) ^^^ 4294967295 = crc s xs := by rw [← h, List.take_length]; rfl
theorem xor_half (a b : Nat) : (a ^^^ b) / 2 = a / 2 ^^^ b / 2 := by
  have := Nat.shiftRight_xor_distrib (a := a) (b := b) (i := 1)
  simpa [Nat.shiftRight_eq_div_pow] using this
theorem xor_low (a b : Nat) : (a ^^^ b) % 2 = (a % 2 + b % 2) % 2 := by
  rw [← Nat.and_one_is_mod, Nat.and_xor_distrib_right, Nat.and_one_is_mod, Nat.and_one_is_mod]
  have h1 : a % 2 = 0 ∨ a % 2 = 1 := by omega
  have h2 : b % 2 = 0 ∨ b % 2 = 1 := by omega
  rcases h1 with h1 | h1 <;> rcases h2 with h2 | h2 <;> rw [h1, h2] <;> rfl
/-- The document's register: the sum's, and what of the byte is not yet in it. -/
def rfk (k c x : Nat) : Nat := crk k c ^^^ x / 2 ^ k
theorem rfk_zero {c x : Nat} : rfk 0 (c ^^^ x) x = c := by
  unfold rfk crk; rw [Nat.pow_zero, Nat.div_one, Nat.xor_assoc, Nat.xor_self, Nat.xor_zero]
theorem rfk_eight {c x : Nat} (h : x < 256) : rfk 8 c x = crk 8 c := by
  unfold rfk; rw [Nat.div_eq_of_lt h, Nat.xor_zero]
theorem rfk_step {k c x : Nat} : rfk (k + 1) c x = if (x / 2 ^ k % 2 ≠ rfk k c x % 2) then (rfk k c x / 2) ^^^ 2197175160 else rfk k c x / 2 := by
  have h1 : rfk k c x / 2 = crk k c / 2 ^^^ x / 2 ^ (k + 1) := by unfold rfk; rw [xor_half, Nat.pow_succ, Nat.div_div_eq_div_mul]
  have h2 : rfk k c x % 2 = (crk k c % 2 + x / 2 ^ k % 2) % 2 := xor_low _ _
  have h3 : rfk (k + 1) c x = crs (crk k c) ^^^ x / 2 ^ (k + 1) := rfl
  rw [h1, h3]
  unfold crs
  by_cases h : crk k c % 2 = 1
  · rw [if_pos (by omega), h]; ac_rfl
  · have h0 : crk k c % 2 = 0 := by omega
    rw [if_neg (by omega), h0]; simp
theorem rfk_t {k c x : Nat} (h : ((x / 2 ^ k % 2 : Nat) : Int) ≠ ((rfk k c x % 2 : Nat) : Int)) : rfk k c x / 2 ^^^ 2197175160 = rfk (k + 1) c x := by
  rw [rfk_step, if_pos (by omega)]
theorem rfk_f {k c x : Nat} (h : ((x / 2 ^ k % 2 : Nat) : Int) = ((rfk k c x % 2 : Nat) : Int)) : rfk k c x / 2 = rfk (k + 1) c x := by
  rw [rfk_step, if_neg (by omega)]
section
variable {P : Program} {n : Nat} {ρ : Env} {A : SP} {dst : Option Tmp} {ty : TypeId} {pos : String} {after : Array Edge} {gd : Option (Nat × Bool)}
theorem o_quoU {t t' : TypeId} {x y : Operand} {k : IntKind} {a b : Nat} (hk : k.signed = false) (hx : ev n ρ x = .int k (a : Nat)) (hy : ev n ρ y = .int k (b : Nat)) (hb : 0 < b) (ha : a < 2 ^ k.bits) : OpV P n ρ A ⟨dst, .binOp .quo t x y t', ty, pos, after, gd⟩ (.int k ((a / b : Nat) : Int)) := (o_quo hx hy (by omega)).cast (by
  rw [Int.tdiv_eq_ediv_of_nonneg (by omega), show (a : Int) / (b : Int) = ((a / b : Nat) : Int) by simp, wrap_fit k hk _ (Nat.lt_of_le_of_lt (Nat.div_le_self _ _) ha)])
theorem o_remU {t t' : TypeId} {x y : Operand} {k : IntKind} {a b : Nat} (hx : ev n ρ x = .int k (a : Nat)) (hy : ev n ρ y = .int k (b : Nat)) (hb : 0 < b) : OpV P n ρ A ⟨dst, .binOp .rem t x y t', ty, pos, after, gd⟩ (.int k ((a % b : Nat) : Int)) := (o_rem hx hy (by omega)).cast (by
  rw [Int.tmod_eq_emod_of_nonneg (by omega), show (a : Int) % (b : Int) = ((a % b : Nat) : Int) by simp])
end
theorem rfk_lt {k c x : Nat} (hc : c < 4294967296) (hx : x < 256) : rfk k c x < 4294967296 := by
  refine x32 (crk_lt hc k) ?_
  have := Nat.div_le_self x (2 ^ k); omega
attribute [local irreducible] crk crL crc Sl pt ro
theorem More_c {A : SP} {a : Option Addr} {m c s : Nat} {xs : List Nat} (hr : Rs A a (bys xs) := by repeat (first | assumption | with_reducible exact rs_sl | with_reducible exact rs_pt0 | exact rs_none | apply Rs.left)) (hm : xs.length = m := by first | assumption | rfl) (hb : ∀ x ∈ xs, x < 256 := by assumption) (hs : s < 4294967296 := by omega) (hl : m ≤ 1099511627776 := by omega) :
    Fn Try.prog 150 #[.int .u32 (s : Nat), .slice a m c] (A) (fun r B => r = .int .u32 ((crc s xs : Nat) : Int) ∧ A = B) := by
  refine fn_enterW (args := [.int .u32 (s : Nat), .slice a m c]) Try.func150 rfl Try.ntmps150 (by simp) ?_
  refine tc_seq ?_
  refine tc_reg ?_
  refine tl_v rfl (o_assign (by conv => lhs; whnf)) ?_
  refine tl_nil ?_
  refine q_then_n ?_
  refine tc_seq ?_
  refine tc_reg ?_
  refine tl_v rfl (o_move (by conv => lhs; whnf)) ?_
  refine tl_v rfl (o_compl32 rfl hs) ?_
  refine tl_v rfl (o_assign (by conv => lhs; whnf)) ?_
  refine tl_nil ?_
  refine q_then_n ?_
  refine tc_seq ?_
  refine tc_seq ?_
  refine tc_reg ?_
  refine tl_v rfl (o_move (by conv => lhs; whnf)) ?_
  refine tl_v rfl (o_len Try.underlying28 rfl) ?_
  refine tl_v rfl (o_move (by conv => lhs; whnf)) ?_
  refine tl_nil ?_
  refine q_then_n ?_
  refine tc_block ?_
  refine tc_loop (fun kk ρ BB => ∃ (i : Nat), (i ≤ m) ∧ kk = m - i ∧ ρ 5 = .int .u32 ((crL (s ^^^ 4294967295) (xs.take i) : Nat) : Int) ∧ ρ 13 = .int .i64 (i : Nat) ∧ ρ 11 = .slice a m c ∧ ρ 12 = .int .i64 (m : Nat) ∧ BB = A) (m := m - (0)) ?_ ?_
  · exact ⟨0, by omega, rfl, congrArg (fun z : Nat => Value.int .u32 (z : Int)) (crL_0 _ _), rfl, rfl, rfl, rfl⟩
  · intro k ρ B hI
    obtain ⟨i, hp0, hkk1, hE5, hE13, hE11, hE12, hBA⟩ := hI
    obtain rfl := hBA.symm
    refine tc_env (d := 5) hE5 ?_
    refine tc_env (d := 13) hE13 ?_
    refine tc_env (d := 11) hE11 ?_
    refine tc_env (d := 12) hE12 ?_
    clear hE5 hE13 hE11 hE12
    refine tc_seq ?_
    refine tc_reg ?_
    refine tl_v rfl (o_lss rfl rfl) ?_
    refine tl_nil ?_
    refine q_then_n ?_
    refine tc_seq ?_
    refine tc_cond rfl (fun h => ?_) (fun h => ?_)
    · have hi : i < xs.length := by simp at h; omega
      have hx256 := hb _ (List.getElem_mem hi)
      have hC := crL_lt (x32 hs (by decide : 4294967295 < 4294967296)) (tk_b (i := i) hb)
      have hR := x32 hC (show xs[i] < 4294967296 by omega)
      refine tc_skip ?_
      refine q_then_n ?_
      refine tc_seq ?_
      refine tc_block ?_
      refine tc_seq ?_
      refine tc_reg ?_
      refine tl_v rfl (o_ixP1 Try.underlying28 sz5 rfl rfl (by first | omega | (simp only [bys_length, ints_length, wds_length, bos_length, List.length_append, List.length_take, List.length_drop, List.length_singleton]; omega)) (by repeat (first | exact nn_some | with_reducible exact nn_sl (by decide) | exact nn_rs (by assumption) (fun _ => by first | omega | (simp only [bys_length, ints_length, wds_length, bos_length, List.length_append, List.length_take, List.length_drop, List.length_singleton]; omega)) | apply Nn.left))) ?_
      refine tl_v rfl (o_ldP p5 rfl hr (bys_at (by assumption))) ?_
      refine tl_v rfl (o_assign (by conv => lhs; whnf)) ?_
      refine tl_nil ?_
      refine q_then_n ?_
      refine tc_seq ?_
      refine tc_reg ?_
      refine tl_v rfl (o_move (by conv => lhs; whnf)) ?_
      refine tl_v rfl (o_move (by conv => lhs; whnf)) ?_
      refine tl_v rfl (by first | exact o_conv32 Try.underlying5 Try.underlying114 rfl | exact o_conv Try.underlying5 Try.underlying114 rfl) ?_
      refine tl_env (d := 19) (v := .int .u32 ((xs[i] : Nat) : Int)) (congrArg (fun z : Nat => Value.int .u32 (z : Int)) (Nat.mod_eq_of_lt (by omega))) ?_
      refine tl_v rfl (o_xorN rfl rfl rfl (by show _ < 4294967296; assumption) (by show _ < 4294967296; omega)) ?_
      refine tl_v rfl (o_assign (by conv => lhs; whnf)) ?_
      refine tl_nil ?_
      refine q_then_n ?_
      refine tc_seq ?_
      refine tc_reg ?_
      refine tl_v rfl (o_move (by conv => lhs; whnf)) ?_
      refine tl_nil ?_
      refine q_then_n ?_
      refine tc_block ?_
      refine tc_loop (fun kk ρ BB => ∃ (k : Nat), (k ≤ 8) ∧ kk = 8 - k ∧ ρ 5 = .int .u32 ((crk k (crL (s ^^^ 4294967295) (xs.take i) ^^^ xs[i]) : Nat) : Int) ∧ ρ 21 = .int .i64 (k : Nat) ∧ ρ 11 = .slice a m c ∧ ρ 12 = .int .i64 (m : Nat) ∧ ρ 13 = .int .i64 (i : Nat) ∧ BB = A) (m := 8 - (0)) ?_ ?_
      · exact ⟨0, by omega, rfl, congrArg (fun z : Nat => Value.int .u32 (z : Int)) (crk_0 _), rfl, rfl, rfl, rfl, rfl⟩
      · intro k ρ B hI
        obtain ⟨k, hp0, hkk2, hE5, hE21, hE11, hE12, hE13, hBA⟩ := hI
        obtain rfl := hBA.symm
        refine tc_env (d := 5) hE5 ?_
        refine tc_env (d := 21) hE21 ?_
        refine tc_env (d := 11) hE11 ?_
        refine tc_env (d := 12) hE12 ?_
        refine tc_env (d := 13) hE13 ?_
        clear hE5 hE21 hE11 hE12 hE13
        refine tc_seq ?_
        refine tc_reg ?_
        refine tl_v rfl (o_lss rfl rfl) ?_
        refine tl_nil ?_
        refine q_then_n ?_
        refine tc_seq ?_
        refine tc_cond rfl (fun h => ?_) (fun h => ?_)
        · have hk := crk_lt hR k
          have hk8 : k < 8 := by simp at h; omega
          refine tc_skip ?_
          refine q_then_n ?_
          refine tc_seq ?_
          refine tc_block ?_
          refine tc_seq ?_
          refine tc_reg ?_
          refine tl_v rfl (o_move (by conv => lhs; whnf)) ?_
          refine tl_v rfl ((o_andN (b := 1) rfl rfl rfl (by show _ < 4294967296; assumption) (by decide)).cast (by rw [and1])) ?_
          refine tl_v rfl (o_assign (by conv => lhs; whnf)) ?_
          refine tl_nil ?_
          refine q_then_n ?_
          refine tc_seq ?_
          refine tc_reg ?_
          refine tl_v rfl (o_move (by conv => lhs; whnf)) ?_
          refine tl_v rfl (o_shrN (b := 1) rfl rfl rfl (by decide)) ?_
          refine tl_v rfl (o_assign (by conv => lhs; whnf)) ?_
          refine tl_nil ?_
          refine q_then_n ?_
          refine tc_reg ?_
          refine tl_v rfl (o_move (by conv => lhs; whnf)) ?_
          refine tl_v rfl (o_move (by conv => lhs; whnf)) ?_
          refine tl_v rfl (o_neg32 rfl (by omega)) ?_
          refine tl_v rfl (o_andN (a := 2197175160) rfl rfl rfl (by decide) (by show _ < 4294967296; omega)) ?_
          refine tl_v rfl (o_xorN rfl rfl rfl (by show _ < 4294967296; omega) (by show _ < 4294967296; exact Nat.and_lt_two_pow (n := 32) _ (by show _ < 4294967296; omega))) ?_
          refine tl_v rfl (o_assign (by conv => lhs; whnf)) ?_
          refine tl_nil ?_
          refine q_block_n (q_then_n ?_)
          refine tc_reg ?_
          refine tl_v rfl (by first | exact o_addI rfl rfl (by omega) | exact o_add rfl rfl) ?_
          refine tl_v rfl (o_move (by conv => lhs; whnf)) ?_
          refine tl_nil ?_
          refine q_then_n ?_
          exact ⟨_, by omega, k + 1, by omega, rfl, congrArg (fun z : Nat => Value.int .u32 (z : Int)) (crk_and _ _), rfl, rfl, rfl, rfl, rfl⟩
        · obtain rfl : k = 8 := by simp at h; omega
          refine tc_exit ?_
          refine q_then_e (q_then_e (q_block_x (q_block_n (q_then_n ?_))))
          refine tc_reg ?_
          refine tl_v rfl (by first | exact o_addI rfl rfl (by omega) | exact o_add rfl rfl) ?_
          refine tl_v rfl (o_move (by conv => lhs; whnf)) ?_
          refine tl_nil ?_
          refine q_then_n ?_
          exact ⟨_, by omega, i + 1, by omega, rfl, congrArg (fun z : Nat => Value.int .u32 (z : Int)) (crL_take hi).symm, rfl, rfl, rfl, rfl⟩
    · obtain rfl : i = m := by simp at h; omega
      have hC2 := crL_lt (x32 hs (by decide : 4294967295 < 4294967296)) (tk_b (i := i) hb)
      refine tc_exit ?_
      refine q_then_e (q_then_e (q_block_x (q_then_n ?_)))
      refine tc_seq ?_
      refine tc_reg ?_
      refine tl_v rfl (o_move (by conv => lhs; whnf)) ?_
      refine tl_v rfl (o_compl32 rfl hC2) ?_
      refine tl_v rfl (o_assign (by conv => lhs; whnf)) ?_
      refine tl_nil ?_
      refine q_then_n ?_
      refine tc_ret ?_
      exact ⟨.int .u32 ((crc s xs : Nat) : Int), A, res1 rfl (congrArg (fun z : Nat => Value.int .u32 (z : Int)) (crc_of s xs hm)), fun _ _ h => h, rfl, rfl⟩
theorem MoreR_c {A : SP} {a : Option Addr} {m c s : Nat} {xs : List Nat} (hr : Rs A a (bys xs) := by repeat (first | assumption | with_reducible exact rs_sl | with_reducible exact rs_pt0 | exact rs_none | apply Rs.left)) (hm : xs.length = m := by first | assumption | rfl) (hb : ∀ x ∈ xs, x < 256 := by assumption) (hs : s < 4294967296 := by omega) (hl : m ≤ 1099511627776 := by omega) :
    Fn Try.prog 133 #[.int .u32 (s : Nat), .slice a m c] (A) (fun r B => r = .int .u32 ((crc s xs : Nat) : Int) ∧ A = B) := by
  refine fn_enterW (args := [.int .u32 (s : Nat), .slice a m c]) Try.func133 rfl Try.ntmps133 (by simp) ?_
  refine tc_seq ?_
  refine tc_reg ?_
  refine tl_v rfl (o_assign (by conv => lhs; whnf)) ?_
  refine tl_nil ?_
  refine q_then_n ?_
  refine tc_seq ?_
  refine tc_reg ?_
  refine tl_v rfl (o_move (by conv => lhs; whnf)) ?_
  refine tl_v rfl (by first | exact o_conv64 Try.underlying114 Try.underlying53 rfl | exact o_conv Try.underlying114 Try.underlying53 rfl) ?_
  refine tl_env (d := 11) (v := .int .u64 ((s : Nat) : Int)) (congrArg (fun z : Nat => Value.int .u64 (z : Int)) (Nat.mod_eq_of_lt (by omega))) ?_
  refine tl_v rfl (o_xorN (b := 4294967295) rfl rfl rfl (by show _ < 18446744073709551616; omega) (by decide)) ?_
  refine tl_v rfl (o_assign (by conv => lhs; whnf)) ?_
  refine tl_nil ?_
  refine q_then_n ?_
  refine tc_seq ?_
  refine tc_seq ?_
  refine tc_reg ?_
  refine tl_v rfl (o_assign (by conv => lhs; whnf)) ?_
  refine tl_nil ?_
  refine q_then_n ?_
  refine tc_block ?_
  refine tc_loop (fun kk ρ BB => ∃ (i : Nat), (i ≤ m) ∧ kk = m - i ∧ ρ 5 = .int .u64 ((crL (s ^^^ 4294967295) (xs.take i) : Nat) : Int) ∧ ρ 6 = .int .i64 (i : Nat) ∧ ρ 1 = .slice a m c ∧ BB = A) (m := m - (0)) ?_ ?_
  · exact ⟨0, by omega, rfl, congrArg (fun z : Nat => Value.int .u64 (z : Int)) (crL_0 _ _), rfl, rfl, rfl⟩
  · intro k ρ B hI
    obtain ⟨i, hp0, hkk1, hE5, hE6, hE1, hBA⟩ := hI
    obtain rfl := hBA.symm
    refine tc_env (d := 5) hE5 ?_
    refine tc_env (d := 6) hE6 ?_
    refine tc_env (d := 1) hE1 ?_
    clear hE5 hE6 hE1
    refine tc_seq ?_
    refine tc_seq ?_
    refine tc_reg ?_
    refine tl_v rfl (o_move (by conv => lhs; whnf)) ?_
    refine tl_v rfl (o_move (by conv => lhs; whnf)) ?_
    refine tl_v rfl (o_len Try.underlying28 rfl) ?_
    refine tl_v rfl (o_lss rfl rfl) ?_
    refine tl_nil ?_
    refine q_then_n ?_
    refine tc_cond rfl (fun h => ?_) (fun h => ?_)
    · have hi : i < xs.length := by simp at h; omega
      have hx256 := hb _ (List.getElem_mem hi)
      have hC := crL_lt (x32 hs (by decide : 4294967295 < 4294967296)) (tk_b (i := i) hb)
      have hR := x32 hC (show xs[i] < 4294967296 by omega)
      refine tc_skip ?_
      refine q_then_n ?_
      refine tc_seq ?_
      refine tc_block ?_
      refine tc_seq ?_
      refine tc_reg ?_
      refine tl_v rfl (o_assign (by conv => lhs; whnf)) ?_
      refine tl_nil ?_
      refine q_then_n ?_
      refine tc_block ?_
      refine tc_loop (fun kk ρ BB => ∃ (k : Nat), (k ≤ 8) ∧ kk = 8 - k ∧ ρ 5 = .int .u64 ((rfk k (crL (s ^^^ 4294967295) (xs.take i) ^^^ xs[i]) xs[i] : Nat) : Int) ∧ ρ 7 = .int .i64 (k : Nat) ∧ ρ 1 = .slice a m c ∧ ρ 6 = .int .i64 (i : Nat) ∧ BB = A) (m := 8 - (0)) ?_ ?_
      · exact ⟨0, by omega, rfl, congrArg (fun z : Nat => Value.int .u64 (z : Int)) rfk_zero.symm, rfl, rfl, rfl, rfl⟩
      · intro k ρ B hI
        obtain ⟨k, hp0, hkk2, hE5, hE7, hE1, hE6, hBA⟩ := hI
        obtain rfl := hBA.symm
        refine tc_env (d := 5) hE5 ?_
        refine tc_env (d := 7) hE7 ?_
        refine tc_env (d := 1) hE1 ?_
        refine tc_env (d := 6) hE6 ?_
        clear hE5 hE7 hE1 hE6
        refine tc_seq ?_
        refine tc_seq ?_
        refine tc_reg ?_
        refine tl_v rfl (o_move (by conv => lhs; whnf)) ?_
        refine tl_v rfl (o_lss rfl rfl) ?_
        refine tl_nil ?_
        refine q_then_n ?_
        refine tc_cond rfl (fun h => ?_) (fun h => ?_)
        · have hk8 : k < 8 := by simp at h; omega
          have hF := rfk_lt (k := k) hR hx256
          have hd := Nat.div_le_self xs[i] (2 ^ k)
          refine tc_skip ?_
          refine q_then_n ?_
          refine tc_seq ?_
          refine tc_block ?_
          refine tc_seq ?_
          refine tc_reg ?_
          refine tl_v rfl (o_move (by conv => lhs; whnf)) ?_
          refine tl_v rfl (o_move (by conv => lhs; whnf)) ?_
          refine tl_v rfl (o_ixP1 Try.underlying28 sz5 rfl rfl (by first | omega | (simp only [bys_length, ints_length, wds_length, bos_length, List.length_append, List.length_take, List.length_drop, List.length_singleton]; omega)) (by repeat (first | exact nn_some | with_reducible exact nn_sl (by decide) | exact nn_rs (by assumption) (fun _ => by first | omega | (simp only [bys_length, ints_length, wds_length, bos_length, List.length_append, List.length_take, List.length_drop, List.length_singleton]; omega)) | apply Nn.left))) ?_
          refine tl_v rfl (o_ldP p5 rfl hr (bys_at (by assumption))) ?_
          refine tl_v rfl (o_move (by conv => lhs; whnf)) ?_
          refine tl_v rfl (o_shrN (b := k) rfl rfl rfl (by show k ≤ 8; omega)) ?_
          refine tl_v rfl (by first | exact o_conv64 Try.underlying5 Try.underlying53 rfl | exact o_conv Try.underlying5 Try.underlying53 rfl) ?_
          refine tl_env (d := 29) (v := .int .u64 ((xs[i] / 2 ^ k : Nat) : Int)) (congrArg (fun z : Nat => Value.int .u64 (z : Int)) (Nat.mod_eq_of_lt (by omega))) ?_
          refine tl_v rfl (o_remU (b := 2) rfl rfl (by decide)) ?_
          refine tl_v rfl (o_assign (by conv => lhs; whnf)) ?_
          refine tl_nil ?_
          refine q_then_n ?_
          refine tc_seq ?_
          refine tc_reg ?_
          refine tl_v rfl (o_move (by conv => lhs; whnf)) ?_
          refine tl_v rfl (o_move (by conv => lhs; whnf)) ?_
          refine tl_v rfl (o_remU (b := 2) rfl rfl (by decide)) ?_
          refine tl_v rfl (o_nei rfl rfl) ?_
          refine tl_v rfl (o_assign (by conv => lhs; whnf)) ?_
          refine tl_nil ?_
          refine q_then_n ?_
          refine tc_seq ?_
          refine tc_reg ?_
          refine tl_v rfl (o_move (by conv => lhs; whnf)) ?_
          refine tl_v rfl (o_quoU (b := 2) rfl rfl rfl (by decide) (by show _ < 18446744073709551616; omega)) ?_
          refine tl_v rfl (o_assign (by conv => lhs; whnf)) ?_
          refine tl_nil ?_
          refine q_then_n ?_
          refine tc_seq ?_
          refine tc_reg ?_
          refine tl_v rfl (o_move (by conv => lhs; whnf)) ?_
          refine tl_nil ?_
          refine q_then_n ?_
          refine tc_cut (fun ρ BB => ρ 5 = .int .u64 ((rfk (k + 1) (crL (s ^^^ 4294967295) (xs.take i) ^^^ xs[i]) xs[i] : Nat) : Int) ∧ ρ 1 = .slice a m c ∧ ρ 6 = .int .i64 (i : Nat) ∧ ρ 7 = .int .i64 (k : Nat) ∧ BB = A) ?_ ?_
          · skip
            refine tc_cond rfl (fun h => ?_) (fun h => ?_)
            · try simp only [decide_eq_true_eq, decide_eq_false_iff_not, Bool.not_eq_true', Bool.not_eq_false', Option.isNone_some, Option.isNone_none, Bool.not_true, Bool.not_false] at h
              refine tc_reg ?_
              refine tl_v rfl (o_move (by conv => lhs; whnf)) ?_
              refine tl_v rfl (o_xorN (b := 2197175160) rfl rfl rfl (by show _ < 18446744073709551616; omega) (by decide)) ?_
              refine tl_v rfl (o_assign (by conv => lhs; whnf)) ?_
              refine tl_nil ?_
              exact ⟨by first | exact congrArg (fun z : Nat => Value.int .u64 (z : Int)) (rfk_t h) | exact congrArg (fun z : Nat => Value.int .u64 (z : Int)) (rfk_f (Classical.not_not.1 h)), rfl, rfl, rfl, rfl⟩
            · try simp only [decide_eq_true_eq, decide_eq_false_iff_not, Bool.not_eq_true', Bool.not_eq_false', Option.isNone_some, Option.isNone_none, Bool.not_true, Bool.not_false] at h
              refine tc_skip ?_
              exact ⟨by first | exact congrArg (fun z : Nat => Value.int .u64 (z : Int)) (rfk_t h) | exact congrArg (fun z : Nat => Value.int .u64 (z : Int)) (rfk_f (Classical.not_not.1 h)), rfl, rfl, rfl, rfl⟩
          · intro ρ B hI
            obtain ⟨hE5, hE1, hE6, hE7, hBA⟩ := hI
            obtain rfl := hBA.symm
            refine q_block_n (q_then_n ?_)
            refine tc_env (d := 5) hE5 ?_
            refine tc_env (d := 1) hE1 ?_
            refine tc_env (d := 6) hE6 ?_
            refine tc_env (d := 7) hE7 ?_
            clear hE5 hE1 hE6 hE7
            refine tc_reg ?_
            refine tl_v rfl (o_move (by conv => lhs; whnf)) ?_
            refine tl_v rfl (by first | exact o_addI rfl rfl (by omega) | exact o_add rfl rfl) ?_
            refine tl_v rfl (o_assign (by conv => lhs; whnf)) ?_
            refine tl_nil ?_
            refine q_then_n ?_
            exact ⟨_, by omega, k + 1, by omega, rfl, rfl, rfl, rfl, rfl, rfl⟩
        · obtain rfl : k = 8 := by simp at h; omega
          refine tc_exit ?_
          refine q_then_e (q_then_e (q_block_x (q_block_n (q_then_n ?_))))
          refine tc_reg ?_
          refine tl_v rfl (o_move (by conv => lhs; whnf)) ?_
          refine tl_v rfl (by first | exact o_addI rfl rfl (by omega) | exact o_add rfl rfl) ?_
          refine tl_v rfl (o_assign (by conv => lhs; whnf)) ?_
          refine tl_nil ?_
          refine q_then_n ?_
          exact ⟨_, by omega, i + 1, by omega, rfl, congrArg (fun z : Nat => Value.int .u64 (z : Int)) ((rfk_eight hx256).trans (crL_take hi).symm), rfl, rfl, rfl⟩
    · obtain rfl : i = m := by simp at h; omega
      have hC2 := crL_lt (x32 hs (by decide : 4294967295 < 4294967296)) (tk_b (i := i) hb)
      refine tc_exit ?_
      refine q_then_e (q_then_e (q_block_x (q_then_n ?_)))
      refine tc_seq ?_
      refine tc_reg ?_
      refine tl_v rfl (o_move (by conv => lhs; whnf)) ?_
      refine tl_v rfl (o_xorN (b := 4294967295) rfl rfl rfl (by show _ < 18446744073709551616; omega) (by decide)) ?_
      refine tl_v rfl ((o_conv32 Try.underlying53 Try.underlying114 rfl).cast (congrArg (fun z : Nat => Value.int .u32 (z : Int)) (Nat.mod_eq_of_lt (x32 (b := 4294967295) hC2 (by decide))))) ?_
      refine tl_v rfl (o_assign (by conv => lhs; whnf)) ?_
      refine tl_nil ?_
      refine q_then_n ?_
      refine tc_ret ?_
      exact ⟨.int .u32 ((crc s xs : Nat) : Int), A, res1 rfl (congrArg (fun z : Nat => Value.int .u32 (z : Int)) (crc_of s xs hm)), fun _ _ h => h, rfl, rfl⟩
end Go.Vl

set_option linter.unusedVariables false
set_option linter.unusedSimpArgs false
namespace Go.Vl
open Go Go.Proofs
/-! ### Sums of parts -/
def crcs (ls : List (List Nat)) : Nat := ls.foldl crc 0
theorem crcs_take {ls : List (List Nat)} {i : Nat} (h : i < ls.length) : crcs (ls.take (i + 1)) = crc (crcs (ls.take i)) ls[i] := by
  unfold crcs; rw [List.take_succ_eq_append_getElem h, List.foldl_append]; rfl
theorem crcs_lt {ls : List (List Nat)} (hb : ∀ l ∈ ls, ∀ x ∈ l, x < 256) : crcs ls < 4294967296 := by
  unfold crcs
  have : ∀ (ls : List (List Nat)) (s : Nat), (∀ l ∈ ls, ∀ x ∈ l, x < 256) → s < 4294967296 → ls.foldl crc s < 4294967296 := by
    intro ls
    induction ls with
    | nil => intro s _ h; exact h
    | cons l ls ih => intro s hb h; exact ih _ (fun l hl => hb l (by simp [hl])) (crc_lt h (hb l (by simp)))
  exact this ls 0 hb (by decide)
attribute [local irreducible] crk crL crc Sl pt ro
theorem Sum_c {A : SP} {a : Option Addr} {m c : Nat} {ls : List (List Nat)} (hr : RdRows A a ls) (hm : ls.length = m := by first | assumption | rfl) (hb : ∀ l ∈ ls, ∀ x ∈ l, x < 256) (hl : ∀ l ∈ ls, l.length ≤ 1099511627776) (hm2 : m ≤ 1099511627776 := by omega) :
    Fn Try.prog 132 #[.slice a m c] (A) (fun r B => r = .int .u32 ((crcs ls : Nat) : Int) ∧ A = B) := by
  refine fn_enterW (args := [.slice a m c]) Try.func132 rfl Try.ntmps132 (by simp) ?_
  obtain ⟨vs, hvl, hra, hrows⟩ := hr
  have hra := rs_rd hra
  refine tc_seq ?_
  refine tc_reg ?_
  refine tl_v rfl (o_assign (by conv => lhs; whnf)) ?_
  refine tl_nil ?_
  refine q_then_n ?_
  refine tc_seq ?_
  refine tc_reg ?_
  refine tl_v rfl (o_assign (by conv => lhs; whnf)) ?_
  refine tl_nil ?_
  refine q_then_n ?_
  refine tc_seq ?_
  refine tc_seq ?_
  refine tc_reg ?_
  refine tl_v rfl (o_move (by conv => lhs; whnf)) ?_
  refine tl_v rfl (o_len Try.underlying33 rfl) ?_
  refine tl_v rfl (o_move (by conv => lhs; whnf)) ?_
  refine tl_nil ?_
  refine q_then_n ?_
  refine tc_block ?_
  refine tc_loop (fun kk ρ BB => ∃ (i : Nat), (i ≤ m) ∧ kk = m - i ∧ ρ 3 = .int .u32 ((crcs (ls.take i) : Nat) : Int) ∧ ρ 8 = .int .i64 (i : Nat) ∧ ρ 6 = .slice a m c ∧ ρ 7 = .int .i64 (m : Nat) ∧ BB = A) (m := m - (0)) ?_ ?_
  · exact ⟨0, by omega, rfl, rfl, rfl, rfl, rfl, rfl⟩
  · intro k ρ B hI
    obtain ⟨i, hp0, hkk1, hE3, hE8, hE6, hE7, hBA⟩ := hI
    obtain rfl := hBA.symm
    refine tc_env (d := 3) hE3 ?_
    refine tc_env (d := 8) hE8 ?_
    refine tc_env (d := 6) hE6 ?_
    refine tc_env (d := 7) hE7 ?_
    clear hE3 hE8 hE6 hE7
    refine tc_seq ?_
    refine tc_reg ?_
    refine tl_v rfl (o_lss rfl rfl) ?_
    refine tl_nil ?_
    refine q_then_n ?_
    refine tc_seq ?_
    refine tc_cond rfl (fun h => ?_) (fun h => ?_)
    · have hi : i < ls.length := by simp at h; omega
      obtain ⟨ai, ci, hvi, hri⟩ := hrows i hi
      have hri := rs_rd hri
      have hbi := hb _ (List.getElem_mem hi)
      have hli := hl _ (List.getElem_mem hi)
      have hs32 := crcs_lt (ls := ls.take i) fun l hl => hb l (List.mem_of_mem_take hl)
      refine tc_skip ?_
      refine q_then_n ?_
      refine tc_seq ?_
      refine tc_block ?_
      refine tc_seq ?_
      refine tc_reg ?_
      refine tl_v rfl (o_ixP1 Try.underlying33 sz28 rfl rfl (by omega) (nn_rs hra (by omega))) ?_
      refine tl_v rfl (o_ldP p28 rfl hra hvi) ?_
      refine tl_v rfl (o_assign (by conv => lhs; whnf)) ?_
      refine tl_nil ?_
      refine q_then_n ?_
      refine tc_reg ?_
      refine tl_v rfl (o_move (by conv => lhs; whnf)) ?_
      refine tl_v rfl (o_move (by conv => lhs; whnf)) ?_
      refine tl_c rfl (o_call bd150 rfl (More_c (hr := hri) (hb := hbi) (hl := hli) (hs := hs32))) ?_
      rintro _ _ ⟨rfl, rfl⟩
      refine tl_v rfl (o_assign (by conv => lhs; whnf)) ?_
      refine tl_nil ?_
      refine q_block_n (q_then_n ?_)
      refine tc_reg ?_
      refine tl_v rfl (by first | exact o_addI rfl rfl (by omega) | exact o_add rfl rfl) ?_
      refine tl_v rfl (o_move (by conv => lhs; whnf)) ?_
      refine tl_nil ?_
      refine q_then_n ?_
      exact ⟨_, by omega, i + 1, by omega, rfl, congrArg (fun z : Nat => Value.int .u32 (z : Int)) (crcs_take hi).symm, rfl, rfl, rfl, rfl⟩
    · try simp only [decide_eq_true_eq, decide_eq_false_iff_not, Bool.not_eq_true', Bool.not_eq_false', Option.isNone_some, Option.isNone_none, Bool.not_true, Bool.not_false] at h
      refine tc_exit ?_
      refine q_then_e (q_then_e (q_block_x (q_then_n ?_)))
      refine tc_seq ?_
      refine tc_reg ?_
      refine tl_v rfl (o_move (by conv => lhs; whnf)) ?_
      refine tl_v rfl (o_assign (by conv => lhs; whnf)) ?_
      refine tl_nil ?_
      refine q_then_n ?_
      refine tc_ret ?_
      obtain rfl : i = m := by omega
      exact ⟨.int .u32 ((crcs ls : Nat) : Int), A, res1 rfl (congrArg (fun z : Nat => Value.int .u32 (z : Int)) (congrArg crcs (List.take_of_length_le (by omega)))), fun _ _ h => h, rfl, rfl⟩
theorem SumR_c {A : SP} {a : Option Addr} {m c : Nat} {xs : List Nat} (hr : Rs A a (bys xs) := by repeat (first | assumption | with_reducible exact rs_sl | with_reducible exact rs_pt0 | exact rs_none | apply Rs.left)) (hm : xs.length = m := by first | assumption | rfl) (hb : ∀ x ∈ xs, x < 256 := by assumption) (hl : m ≤ 1099511627776 := by omega) :
    Fn Try.prog 85 #[.slice a m c] (A) (fun r B => r = .int .u32 ((crc 0 xs : Nat) : Int) ∧ A = B) := by
  refine fn_enterW (args := [.slice a m c]) Try.func85 rfl Try.ntmps85 (by simp) ?_
  refine tc_seq ?_
  refine tc_reg ?_
  refine tl_v rfl (o_assign (by conv => lhs; whnf)) ?_
  refine tl_nil ?_
  refine q_then_n ?_
  refine tc_seq ?_
  refine tc_reg ?_
  refine tl_v rfl (o_move (by conv => lhs; whnf)) ?_
  refine tl_c rfl (o_call bd133 rfl (MoreR_c (s := 0) (hr := hr))) ?_
  rintro _ _ ⟨rfl, rfl⟩
  refine tl_v rfl (o_assign (by conv => lhs; whnf)) ?_
  refine tl_nil ?_
  refine q_then_n ?_
  refine tc_ret ?_
  exact ⟨.int .u32 ((crc 0 xs : Nat) : Int), A, res1 rfl rfl, fun _ _ h => h, rfl, rfl⟩
theorem Little_c {A : SP} {v n : Nat} (hn : n ≤ 8 := by decide) :
    Fn Try.prog 74 #[.int .u64 (v : Nat), .int .i64 (n : Nat)] (A) (fun r B => ∃ a c, r = .slice a n c ∧ n ≤ c ∧ B = A * Sl 1 (.slice a n c) n (bys (le n v))) := by
  refine fn_enterW (args := [.int .u64 (v : Nat), .int .i64 (n : Nat)]) Try.func74 rfl Try.ntmps74 (by simp) ?_
  refine tc_seq ?_
  refine tc_reg ?_
  refine tl_v rfl (o_assign (by conv => lhs; whnf)) ?_
  refine tl_nil ?_
  refine q_then_n ?_
  refine tc_seq ?_
  refine tc_reg ?_
  refine tl_v rfl (o_assign (by conv => lhs; whnf)) ?_
  refine tl_nil ?_
  refine q_then_n ?_
  refine tc_seq ?_
  refine tc_seq ?_
  refine tc_reg ?_
  refine tl_v rfl (o_assign (by conv => lhs; whnf)) ?_
  refine tl_nil ?_
  refine q_then_n ?_
  refine tc_block ?_
  refine tc_pre (fun _ _ h => sl_nil (k := 1) h) ?_
  refine tc_loop (fun kk ρ BB => ∃ (i : Nat) (a5 : Option Addr) (c5 : Nat), (i ≤ n) ∧ kk = n - i ∧ ρ 5 = .slice a5 i c5 ∧ ρ 6 = .int .i64 (i : Nat) ∧ ρ 0 = .int .u64 (v : Nat) ∧ ρ 1 = .int .i64 (n : Nat) ∧ BB = A * Sl 1 (.slice a5 i c5) i (bys (le i v))) (m := n - (0)) ?_ ?_
  · exact ⟨0, none, 0, by omega, rfl, rfl, rfl, rfl, rfl, rfl⟩
  · intro k ρ B hI
    obtain ⟨i, a5, c5, hp0, hkk1, hE5, hE6, hE0, hE1, rfl⟩ := hI
    refine tc_env (d := 5) hE5 ?_
    refine tc_env (d := 6) hE6 ?_
    refine tc_env (d := 0) hE0 ?_
    refine tc_env (d := 1) hE1 ?_
    clear hE5 hE6 hE0 hE1
    refine tc_seq ?_
    refine tc_seq ?_
    refine tc_reg ?_
    refine tl_v rfl (o_move (by conv => lhs; whnf)) ?_
    refine tl_v rfl (o_move (by conv => lhs; whnf)) ?_
    refine tl_v rfl (o_lss rfl rfl) ?_
    refine tl_nil ?_
    refine q_then_n ?_
    refine tc_cond rfl (fun h => ?_) (fun h => ?_)
    · try simp only [decide_eq_true_eq, decide_eq_false_iff_not, Bool.not_eq_true', Bool.not_eq_false', Option.isNone_some, Option.isNone_none, Bool.not_true, Bool.not_false] at h
      refine tc_skip ?_
      refine q_then_n ?_
      refine tc_seq ?_
      refine tc_block ?_
      refine tc_reg ?_
      refine tl_v rfl (o_move (by conv => lhs; whnf)) ?_
      refine tl_v rfl (o_move (by conv => lhs; whnf)) ?_
      refine tl_v rfl (o_move (by conv => lhs; whnf)) ?_
      refine tl_v rfl (by first | exact o_mulI rfl rfl (by omega) | exact o_mul rfl rfl) ?_
      refine tl_env (d := 15) (v := .int .i64 ((8 * i : Nat) : Int)) (rfl) ?_
      refine tl_v rfl (o_shrN (b := 8 * i) rfl rfl rfl (by show 8 * i ≤ 64; omega)) ?_
      refine tl_v rfl (by first | exact o_conv8 Try.underlying53 Try.underlying5 rfl | exact o_conv Try.underlying53 Try.underlying5 rfl) ?_
      refine tl_env (d := 17) (v := .int .u8 ((v / 256 ^ i % 256 : Nat) : Int)) (congrArg (fun z : Nat => Value.int .u8 ((v / z % 256 : Nat) : Int)) (Nat.pow_mul 2 8 i)) ?_
      refine tl_x rfl (o_buildSlice1 Try.underlying28 sz5 z5 (by conv => lhs; whnf) rfl) ?_
      rintro _ _ ⟨b18, rfl, rfl⟩
      refine tl_x rfl (o_apB Try.underlying28 Try.underlying28 sz5 by5 z5 rfl (by decide) (by decide) rfl rfl rfl (by repeat (first | with_reducible exact ct_here | apply ct_left)) rfl (by first | exact bys_all _ | exact ints_all _ | exact wds_all _ | exact bos_all _ | rfl) (by first | omega | (simp only [bys_length, ints_length, wds_length, bos_length, List.length_append, List.length_take, List.length_drop, List.length_singleton]; omega)) (by first | exact bys_sn _ _ | exact ints_sn _ _ | exact wds_sn _ _ | exact bos_sn _ _ | exact (bys_append _ _).symm | rfl)) ?_
      rintro _ _ ⟨a19, c19, rfl, hc19, rfl⟩
      refine tl_v rfl (o_assign (by conv => lhs; whnf)) ?_
      refine tl_nil ?_
      refine q_block_n (q_then_n ?_)
      refine tc_reg ?_
      refine tl_v rfl (o_move (by conv => lhs; whnf)) ?_
      refine tl_v rfl (by first | exact o_addI rfl rfl (by omega) | exact o_add rfl rfl) ?_
      refine tl_v rfl (o_assign (by conv => lhs; whnf)) ?_
      refine tl_nil ?_
      refine q_then_n ?_
      exact ⟨_, by omega, i + 1, _, _, by omega, rfl, rfl, rfl, rfl, rfl, by rw [le_snoc]⟩
    · try simp only [decide_eq_true_eq, decide_eq_false_iff_not, Bool.not_eq_true', Bool.not_eq_false', Option.isNone_some, Option.isNone_none, Bool.not_true, Bool.not_false] at h
      refine tc_exit ?_
      refine q_then_e (q_then_e (q_block_x (q_then_n ?_)))
      refine tc_seq ?_
      refine tc_have (fun _ _ h => ct_cap (by repeat (first | with_reducible exact ct_here | apply ct_left)) h) fun hc5 => ?_
      refine tc_reg ?_
      refine tl_v rfl (o_move (by conv => lhs; whnf)) ?_
      refine tl_v rfl (o_assign (by conv => lhs; whnf)) ?_
      refine tl_nil ?_
      refine q_then_n ?_
      refine tc_ret ?_
      obtain rfl : i = n := by omega
      exact ⟨_, _, res1 rfl rfl, fun _ _ h => h, a5, c5, rfl, hc5, rfl⟩
end Go.Vl

set_option linter.unusedVariables false
set_option linter.unusedSimpArgs false
namespace Go.Vl
open Go Go.Proofs
def sbys (s : ByteArray) : List Nat := s.data.toList.map fun b => b.toNat
theorem sbys_len (s : ByteArray) : (sbys s).length = s.size := by unfold sbys; rw [List.length_map]; rfl
theorem sbys_at {s : ByteArray} {i : Nat} (h : i < s.size) : ∃ c : UInt8, s[i]? = some c ∧ (sbys s)[i]? = some c.toNat := by
  refine ⟨s[i], getElem?_pos s i h, ?_⟩
  unfold sbys
  rw [List.getElem?_map, List.getElem?_eq_getElem (by simpa using h)]
  simp; rfl
attribute [local irreducible] crk crL crc Sl pt ro
theorem Text_c {A : SP} {s : ByteArray} (hl : s.size ≤ 1099511627776 := by decide) :
    Fn Try.prog 84 #[.string s] (A) (fun r B => ∃ a c, r = .slice a (sbys s).length c ∧ (sbys s).length ≤ c ∧ B = A * Sl 1 (.slice a (sbys s).length c) (sbys s).length (bys (sbys s))) := by
  refine fn_enterW (args := [.string s]) Try.func84 rfl Try.ntmps84 (by simp) ?_
  have hxl := sbys_len s
  refine tc_seq ?_
  refine tc_reg ?_
  refine tl_v rfl (o_assign (by conv => lhs; whnf)) ?_
  refine tl_nil ?_
  refine q_then_n ?_
  refine tc_seq ?_
  refine tc_reg ?_
  refine tl_v rfl (o_assign (by conv => lhs; whnf)) ?_
  refine tl_nil ?_
  refine q_then_n ?_
  refine tc_seq ?_
  refine tc_seq ?_
  refine tc_reg ?_
  refine tl_v rfl (o_assign (by conv => lhs; whnf)) ?_
  refine tl_nil ?_
  refine q_then_n ?_
  refine tc_block ?_
  refine tc_pre (fun _ _ h => sl_nil (k := 1) h) ?_
  refine tc_loop (fun kk ρ BB => ∃ (i : Nat) (a5 : Option Addr) (c5 : Nat), (i ≤ s.size) ∧ kk = s.size - i ∧ ρ 3 = .slice a5 i c5 ∧ ρ 4 = .int .i64 (i : Nat) ∧ ρ 0 = .string s ∧ BB = A * Sl 1 (.slice a5 i c5) i (bys ((sbys s).take i))) (m := s.size - (0)) ?_ ?_
  · exact ⟨0, none, 0, by omega, rfl, rfl, rfl, rfl, rfl⟩
  · intro k ρ B hI
    obtain ⟨i, a5, c5, hp0, hkk1, hE3, hE4, hE0, rfl⟩ := hI
    refine tc_env (d := 3) hE3 ?_
    refine tc_env (d := 4) hE4 ?_
    refine tc_env (d := 0) hE0 ?_
    clear hE3 hE4 hE0
    refine tc_seq ?_
    refine tc_seq ?_
    refine tc_reg ?_
    refine tl_v rfl (o_move (by conv => lhs; whnf)) ?_
    refine tl_v rfl (o_move (by conv => lhs; whnf)) ?_
    refine tl_v rfl (o_lenS Try.underlying9 rfl) ?_
    refine tl_v rfl (o_lss rfl rfl) ?_
    refine tl_nil ?_
    refine q_then_n ?_
    refine tc_cond rfl (fun h => ?_) (fun h => ?_)
    · have hi : i < s.size := by simp at h; omega
      obtain ⟨cc, h1, h2⟩ := sbys_at hi
      refine tc_skip ?_
      refine q_then_n ?_
      refine tc_seq ?_
      refine tc_block ?_
      refine tc_reg ?_
      refine tl_v rfl (o_move (by conv => lhs; whnf)) ?_
      refine tl_v rfl (o_move (by conv => lhs; whnf)) ?_
      refine tl_v rfl (o_move (by conv => lhs; whnf)) ?_
      refine tl_v rfl (o_indexS Try.underlying9 rfl rfl (by omega) h1) ?_
      refine tl_env (d := 14) (v := .int .u8 ((cc.toNat : Nat) : Int)) (rfl) ?_
      refine tl_x rfl (o_buildSlice1 Try.underlying28 sz5 z5 (by conv => lhs; whnf) rfl) ?_
      rintro _ _ ⟨b15, rfl, rfl⟩
      refine tl_x rfl (o_apB Try.underlying28 Try.underlying28 sz5 by5 z5 rfl (by decide) (by decide) rfl rfl rfl (by repeat (first | with_reducible exact ct_here | apply ct_left)) rfl (by first | exact bys_all _ | exact ints_all _ | exact wds_all _ | exact bos_all _ | rfl) (by first | omega | (simp only [bys_length, ints_length, wds_length, bos_length, List.length_append, List.length_take, List.length_drop, List.length_singleton]; omega)) (by first | exact bys_sn _ _ | exact ints_sn _ _ | exact wds_sn _ _ | exact bos_sn _ _ | exact (bys_append _ _).symm | rfl)) ?_
      rintro _ _ ⟨a16, c16, rfl, hc16, rfl⟩
      refine tl_v rfl (o_assign (by conv => lhs; whnf)) ?_
      refine tl_nil ?_
      refine q_block_n (q_then_n ?_)
      refine tc_reg ?_
      refine tl_v rfl (o_move (by conv => lhs; whnf)) ?_
      refine tl_v rfl (by first | exact o_addI rfl rfl (by omega) | exact o_add rfl rfl) ?_
      refine tl_v rfl (o_assign (by conv => lhs; whnf)) ?_
      refine tl_nil ?_
      refine q_then_n ?_
      exact ⟨_, by omega, i + 1, _, _, by omega, rfl, rfl, rfl, rfl, by rw [List.take_add_one, h2]; rfl⟩
    · try simp only [decide_eq_true_eq, decide_eq_false_iff_not, Bool.not_eq_true', Bool.not_eq_false', Option.isNone_some, Option.isNone_none, Bool.not_true, Bool.not_false] at h
      refine tc_exit ?_
      refine q_then_e (q_then_e (q_block_x (q_then_n ?_)))
      refine tc_seq ?_
      refine tc_have (fun _ _ h => ct_cap (by repeat (first | with_reducible exact ct_here | apply ct_left)) h) fun hc5 => ?_
      obtain rfl : i = (sbys s).length := by omega
      rw [List.take_length]
      refine tc_reg ?_
      refine tl_v rfl (o_move (by conv => lhs; whnf)) ?_
      refine tl_v rfl (o_assign (by conv => lhs; whnf)) ?_
      refine tl_nil ?_
      refine q_then_n ?_
      refine tc_ret ?_
      exact ⟨_, _, res1 rfl rfl, fun _ _ h => h, a5, c5, rfl, hc5, rfl⟩
theorem Two_j {A : SP} {a1 a2 : Option Addr} {m1 m2 c1 c2 b : Nat} {xs ys : List Nat} {E : TypeId} (h1 : Rs A a1 (bys xs)) (h2 : Rs A a2 (bys ys)) (e1 : xs.length = m1) (e2 : ys.length = m2) (hl : m1 + m2 ≤ 17592186044416) :
    Fn Try.prog 36 #[.slice (some ⟨b, 0, none⟩) 2 2] (A * pt b (cl [.slice a1 m1 c1, .slice a2 m2 c2] E)) (fun r B => ∃ a c, r = .slice a (m1 + m2) c ∧ m1 + m2 ≤ c ∧ B = A * pt b (cl [.slice a1 m1 c1, .slice a2 m2 c2] E) * Sl 1 (.slice a (m1 + m2) c) (m1 + m2) (bys (xs ++ ys))) := by
  subst e1 e2
  refine fn_rs (xs := [.slice a1 xs.length c1, .slice a2 ys.length c2]) rs_pt0 fun hr => ?_
  refine fn_rs h1.left fun h1 => fn_rs h2.left fun h2 => ?_
  have key := JoinN_f (A * pt b (cl [.slice a1 xs.length c1, .slice a2 ys.length c2] E)) (some ⟨b, 0, none⟩) 2 2 [xs, ys] ⟨_, rfl, hr, fun i hi => by
    match i, hi with
    | 0, _ => exact ⟨a1, c1, rfl, h1⟩
    | 1, _ => exact ⟨a2, c2, rfl, h2⟩⟩ (by simp; omega) (by simp) rfl
  have e : ([xs, ys] : List (List Nat)).flatten = xs ++ ys := by simp
  rw [e] at key
  have e3 : (xs ++ ys).length = xs.length + ys.length := by simp
  rw [e3] at key
  exact fn_sl key
theorem Two_c {A : SP} {a1 a2 : Option Addr} {m1 m2 c1 c2 : Nat} {xs ys : List Nat} (h1 : Rs A a1 (bys xs) := by repeat (first | assumption | with_reducible exact rs_sl | with_reducible exact rs_pt0 | exact rs_none | apply Rs.left)) (h2 : Rs A a2 (bys ys) := by repeat (first | assumption | with_reducible exact rs_sl | with_reducible exact rs_pt0 | exact rs_none | apply Rs.left)) (e1 : xs.length = m1 := by first | assumption | rfl) (e2 : ys.length = m2 := by first | assumption | rfl) (hl : m1 + m2 ≤ 17592186044416 := by omega) :
    Fn Try.prog 73 #[.slice a1 m1 c1, .slice a2 m2 c2] (A) (fun r B => ∃ a c, r = .slice a (m1 + m2) c ∧ m1 + m2 ≤ c ∧ B = A * Sl 1 (.slice a (m1 + m2) c) (m1 + m2) (bys (xs ++ ys))) := by
  refine fn_enterW (args := [.slice a1 m1 c1, .slice a2 m2 c2]) Try.func73 rfl Try.ntmps73 (by simp) ?_
  refine tc_seq ?_
  refine tc_reg ?_
  refine tl_v rfl (o_assign (by conv => lhs; whnf)) ?_
  refine tl_nil ?_
  refine q_then_n ?_
  refine tc_seq ?_
  refine tc_reg ?_
  refine tl_v rfl (o_move (by conv => lhs; whnf)) ?_
  refine tl_v rfl (o_move (by conv => lhs; whnf)) ?_
  refine tl_x rfl (o_buildSliceL (k := 1) (vs := [.slice a1 m1 c1, .slice a2 m2 c2]) (l := [.slice a1 m1 c1, .slice a2 m2 c2]) Try.underlying33 sz28 z28 rfl rfl (by decide) (by decide) (by intro v hv; simp at hv; rcases hv with rfl | rfl <;> rfl) rfl) ?_
  rintro _ _ ⟨b7, rfl, rfl⟩
  refine tl_c rfl (o_call bd36 rfl (Two_j h1 h2 e1 e2 hl)) ?_
  rintro _ _ ⟨a8, c8, rfl, hc8, rfl⟩
  refine tl_v rfl (o_assign (by conv => lhs; whnf)) ?_
  refine tl_nil ?_
  refine q_then_n ?_
  refine tc_ret ?_
  exact ⟨_, _, res1 rfl rfl, Dr.sat (by repeat (first | with_reducible exact dr_refl | apply dr_keep | apply dr_drop)), a8, c8, rfl, hc8, rfl⟩
end Go.Vl

set_option linter.unusedVariables false
set_option linter.unusedSimpArgs false
namespace Go.Vl
open Go Go.Proofs
def planL (n : Int) : List Int := [n, 128, 32768, 32896, (n - 32896) / 256]
def planT (n : Int) : List Int × Int := if 36992 ≤ n ∧ n ≤ 4194304 ∧ n % 64 = 0 then (planL n, 0) else ([0, 0, 0, 0, 0], 80)
theorem planT_t {n : Int} (h : 36992 ≤ n ∧ n ≤ 4194304 ∧ n % 64 = 0) : planT n = (planL n, 0) := if_pos h
theorem planT_f {n : Int} (h : ¬ (36992 ≤ n ∧ n ≤ 4194304 ∧ n % 64 = 0)) : planT n = ([0, 0, 0, 0, 0], 80) := if_neg h
theorem planT_len (n : Int) : (planT n).1.length = 5 := by unfold planT; split <;> rfl
attribute [local irreducible] crk crL crc Sl pt ro planT
theorem Plan_c {A : SP} {n : Int} :
    Fn Try.prog 18 #[.int .i64 n] (A) (fun r B => r = .tuple #[.agg (ints (planT n).1).toArray, .int .i64 (planT n).2] ∧ A = B) := by
  refine fn_enterW (args := [.int .i64 n]) Try.func18 rfl Try.ntmps18 (by simp) ?_
  refine tc_seq ?_
  refine tc_reg ?_
  refine tl_x rfl (o_alloc z23 rfl) ?_
  rintro _ _ ⟨b2, rfl, rfl⟩
  refine tl_v rfl (o_assign (by conv => lhs; whnf)) ?_
  refine tl_nil ?_
  refine q_then_n ?_
  refine tc_seq ?_
  refine tc_seq ?_
  refine tc_reg ?_
  refine tl_v rfl (o_move (by conv => lhs; whnf)) ?_
  refine tl_v rfl (o_lss rfl rfl) ?_
  refine tl_v rfl (o_move (by conv => lhs; whnf)) ?_
  refine tl_bool (d := 6) rfl (fun h => ?_) (fun h => ?_)
  · try simp only [decide_eq_true_eq, decide_eq_false_iff_not, Bool.not_eq_true', Bool.not_eq_false', Option.isNone_some, Option.isNone_none, Bool.not_true, Bool.not_false] at h
    refine tl_skip rfl ?_
    refine tl_skip rfl ?_
    refine tl_v rfl (o_pick_t rfl (by conv => lhs; whnf)) ?_
    refine tl_v rfl (o_move (by conv => lhs; whnf)) ?_
    refine tl_skip rfl ?_
    refine tl_skip rfl ?_
    refine tl_skip rfl ?_
    refine tl_v rfl (o_pick_t rfl (by conv => lhs; whnf)) ?_
    refine tl_nil ?_
    refine q_then_n ?_
    refine tc_cond_t rfl ?_
    refine tc_seq ?_
    refine tc_reg ?_
    refine tl_v rfl (o_bS (l := ints [0, 0, 0, 0, 0]) pv_nil Try.underlying23 z23 (pl23 Try.underlying23) rfl) ?_
    refine tl_u rfl (o_stUN (l' := ints [0, 0, 0, 0, 0]) rfl upd_here sz23 rfl rfl rfl (by simp) rfl) ?_
    refine tl_v rfl (o_assign (by conv => lhs; whnf)) ?_
    refine tl_nil ?_
    refine q_then_n ?_
    refine tc_ret ?_
    refine q_then_r ?_
    first
    | (have hp := planT_t (n := n) (by omega); rw [hp]; exact ⟨.tuple #[.agg (ints (planL n)).toArray, .int .i64 0], A, resA2 rfl (rv_cell a23 sz23 rfl has_here (by show 5 ≤ 5; decide) rfl) (rv_tmp rfl), Dr.sat (by repeat (first | with_reducible exact dr_refl | apply dr_keep | apply dr_drop)), rfl, rfl⟩)
    | (have hp := planT_f (n := n) (by omega); rw [hp]; exact ⟨.tuple #[.agg (ints [0, 0, 0, 0, 0]).toArray, .int .i64 80], A, resA2 rfl (rv_cell a23 sz23 rfl has_here (by show 5 ≤ 5; decide) rfl) (rv_tmp rfl), Dr.sat (by repeat (first | with_reducible exact dr_refl | apply dr_keep | apply dr_drop)), rfl, rfl⟩)
  · try simp only [decide_eq_true_eq, decide_eq_false_iff_not, Bool.not_eq_true', Bool.not_eq_false', Option.isNone_some, Option.isNone_none, Bool.not_true, Bool.not_false] at h
    refine tl_v rfl (o_move (by conv => lhs; whnf)) ?_
    refine tl_v rfl (o_gtr rfl rfl) ?_
    refine tl_v rfl (o_pick_f rfl (by conv => lhs; whnf)) ?_
    refine tl_v rfl (o_move (by conv => lhs; whnf)) ?_
    refine tl_bool (d := 10) rfl (fun h => ?_) (fun h => ?_)
    · try simp only [decide_eq_true_eq, decide_eq_false_iff_not, Bool.not_eq_true', Bool.not_eq_false', Option.isNone_some, Option.isNone_none, Bool.not_true, Bool.not_false] at h
      refine tl_skip rfl ?_
      refine tl_skip rfl ?_
      refine tl_skip rfl ?_
      refine tl_v rfl (o_pick_t rfl (by conv => lhs; whnf)) ?_
      refine tl_nil ?_
      refine q_then_n ?_
      refine tc_cond_t rfl ?_
      refine tc_seq ?_
      refine tc_reg ?_
      refine tl_v rfl (o_bS (l := ints [0, 0, 0, 0, 0]) pv_nil Try.underlying23 z23 (pl23 Try.underlying23) rfl) ?_
      refine tl_u rfl (o_stUN (l' := ints [0, 0, 0, 0, 0]) rfl upd_here sz23 rfl rfl rfl (by simp) rfl) ?_
      refine tl_v rfl (o_assign (by conv => lhs; whnf)) ?_
      refine tl_nil ?_
      refine q_then_n ?_
      refine tc_ret ?_
      refine q_then_r ?_
      first
      | (have hp := planT_t (n := n) (by omega); rw [hp]; exact ⟨.tuple #[.agg (ints (planL n)).toArray, .int .i64 0], A, resA2 rfl (rv_cell a23 sz23 rfl has_here (by show 5 ≤ 5; decide) rfl) (rv_tmp rfl), Dr.sat (by repeat (first | with_reducible exact dr_refl | apply dr_keep | apply dr_drop)), rfl, rfl⟩)
      | (have hp := planT_f (n := n) (by omega); rw [hp]; exact ⟨.tuple #[.agg (ints [0, 0, 0, 0, 0]).toArray, .int .i64 80], A, resA2 rfl (rv_cell a23 sz23 rfl has_here (by show 5 ≤ 5; decide) rfl) (rv_tmp rfl), Dr.sat (by repeat (first | with_reducible exact dr_refl | apply dr_keep | apply dr_drop)), rfl, rfl⟩)
    · try simp only [decide_eq_true_eq, decide_eq_false_iff_not, Bool.not_eq_true', Bool.not_eq_false', Option.isNone_some, Option.isNone_none, Bool.not_true, Bool.not_false] at h
      refine tl_v rfl (o_move (by conv => lhs; whnf)) ?_
      refine tl_v rfl (by first | exact o_remI rfl rfl (by omega) | exact o_rem rfl rfl (by omega)) ?_
      refine tl_v rfl (o_nei rfl rfl) ?_
      refine tl_v rfl (o_pick_f rfl (by conv => lhs; whnf)) ?_
      refine tl_nil ?_
      refine q_then_n ?_
      refine tc_cond rfl (fun h => ?_) (fun h => ?_)
      · try simp only [decide_eq_true_eq, decide_eq_false_iff_not, Bool.not_eq_true', Bool.not_eq_false', Option.isNone_some, Option.isNone_none, Bool.not_true, Bool.not_false] at h
        refine tc_seq ?_
        refine tc_reg ?_
        refine tl_v rfl (o_bS (l := ints [0, 0, 0, 0, 0]) pv_nil Try.underlying23 z23 (pl23 Try.underlying23) rfl) ?_
        refine tl_u rfl (o_stUN (l' := ints [0, 0, 0, 0, 0]) rfl upd_here sz23 rfl rfl rfl (by simp) rfl) ?_
        refine tl_v rfl (o_assign (by conv => lhs; whnf)) ?_
        refine tl_nil ?_
        refine q_then_n ?_
        refine tc_ret ?_
        refine q_then_r ?_
        first
        | (have hp := planT_t (n := n) (by omega); rw [hp]; exact ⟨.tuple #[.agg (ints (planL n)).toArray, .int .i64 0], A, resA2 rfl (rv_cell a23 sz23 rfl has_here (by show 5 ≤ 5; decide) rfl) (rv_tmp rfl), Dr.sat (by repeat (first | with_reducible exact dr_refl | apply dr_keep | apply dr_drop)), rfl, rfl⟩)
        | (have hp := planT_f (n := n) (by omega); rw [hp]; exact ⟨.tuple #[.agg (ints [0, 0, 0, 0, 0]).toArray, .int .i64 80], A, resA2 rfl (rv_cell a23 sz23 rfl has_here (by show 5 ≤ 5; decide) rfl) (rv_tmp rfl), Dr.sat (by repeat (first | with_reducible exact dr_refl | apply dr_keep | apply dr_drop)), rfl, rfl⟩)
      · try simp only [decide_eq_true_eq, decide_eq_false_iff_not, Bool.not_eq_true', Bool.not_eq_false', Option.isNone_some, Option.isNone_none, Bool.not_true, Bool.not_false] at h
        refine tc_skip ?_
        refine q_then_n ?_
        refine tc_seq ?_
        refine tc_reg ?_
        refine tl_v rfl (o_move (by conv => lhs; whnf)) ?_
        refine tl_v rfl (o_move (by conv => lhs; whnf)) ?_
        refine tl_v rfl (by first | exact o_subI rfl rfl (by omega) | exact o_sub rfl rfl) ?_
        refine tl_v rfl (by first | exact o_quoI rfl rfl (by omega) | exact o_quo rfl rfl (by omega)) ?_
        refine tl_v rfl (o_bS (l := ints (planL n)) (pv_cons (by conv => lhs; whnf) (pv_cons (by conv => lhs; whnf) (pv_cons (by conv => lhs; whnf) (pv_cons (by conv => lhs; whnf) (pv_cons (by conv => lhs; whnf) pv_nil))))) Try.underlying23 z23 (pl23 Try.underlying23) rfl) ?_
        refine tl_u rfl (o_stUN (l' := ints (planL n)) rfl upd_here sz23 rfl rfl rfl (by simp) rfl) ?_
        refine tl_v rfl (o_assign (by conv => lhs; whnf)) ?_
        refine tl_nil ?_
        refine q_then_n ?_
        refine tc_ret ?_
        first
        | (have hp := planT_t (n := n) (by omega); rw [hp]; exact ⟨.tuple #[.agg (ints (planL n)).toArray, .int .i64 0], A, resA2 rfl (rv_cell a23 sz23 rfl has_here (by show 5 ≤ 5; decide) rfl) (rv_tmp rfl), Dr.sat (by repeat (first | with_reducible exact dr_refl | apply dr_keep | apply dr_drop)), rfl, rfl⟩)
        | (have hp := planT_f (n := n) (by omega); rw [hp]; exact ⟨.tuple #[.agg (ints [0, 0, 0, 0, 0]).toArray, .int .i64 80], A, resA2 rfl (rv_cell a23 sz23 rfl has_here (by show 5 ≤ 5; decide) rfl) (rv_tmp rfl), Dr.sat (by repeat (first | with_reducible exact dr_refl | apply dr_keep | apply dr_drop)), rfl, rfl⟩)
theorem PlanR_c {A : SP} {n : Int} :
    Fn Try.prog 19 #[.int .i64 n] (A) (fun r B => r = .tuple #[.agg (ints (planT n).1).toArray, .int .i64 (planT n).2] ∧ A = B) := by
  refine fn_enterW (args := [.int .i64 n]) Try.func19 rfl Try.ntmps19 (by simp) ?_
  refine tc_seq ?_
  refine tc_reg ?_
  refine tl_x rfl (o_alloc z23 rfl) ?_
  rintro _ _ ⟨b2, rfl, rfl⟩
  refine tl_v rfl (o_assign (by conv => lhs; whnf)) ?_
  refine tl_nil ?_
  refine q_then_n ?_
  refine tc_seq ?_
  refine tc_seq ?_
  refine tc_reg ?_
  refine tl_v rfl (o_move (by conv => lhs; whnf)) ?_
  refine tl_v rfl (o_lss rfl rfl) ?_
  refine tl_v rfl (o_move (by conv => lhs; whnf)) ?_
  refine tl_bool (d := 6) rfl (fun h => ?_) (fun h => ?_)
  · try simp only [decide_eq_true_eq, decide_eq_false_iff_not, Bool.not_eq_true', Bool.not_eq_false', Option.isNone_some, Option.isNone_none, Bool.not_true, Bool.not_false] at h
    refine tl_skip rfl ?_
    refine tl_skip rfl ?_
    refine tl_v rfl (o_pick_t rfl (by conv => lhs; whnf)) ?_
    refine tl_v rfl (o_move (by conv => lhs; whnf)) ?_
    refine tl_skip rfl ?_
    refine tl_skip rfl ?_
    refine tl_skip rfl ?_
    refine tl_v rfl (o_pick_t rfl (by conv => lhs; whnf)) ?_
    refine tl_nil ?_
    refine q_then_n ?_
    refine tc_cond_t rfl ?_
    refine tc_seq ?_
    refine tc_reg ?_
    refine tl_v rfl (o_bS (l := ints [0, 0, 0, 0, 0]) pv_nil Try.underlying23 z23 (pl23 Try.underlying23) rfl) ?_
    refine tl_u rfl (o_stUN (l' := ints [0, 0, 0, 0, 0]) rfl upd_here sz23 rfl rfl rfl (by simp) rfl) ?_
    refine tl_v rfl (o_assign (by conv => lhs; whnf)) ?_
    refine tl_nil ?_
    refine q_then_n ?_
    refine tc_ret ?_
    refine q_then_r ?_
    first
    | (have hp := planT_t (n := n) (by omega); rw [hp]; exact ⟨.tuple #[.agg (ints (planL n)).toArray, .int .i64 0], A, resA2 rfl (rv_cell a23 sz23 rfl has_here (by show 5 ≤ 5; decide) rfl) (rv_tmp rfl), Dr.sat (by repeat (first | with_reducible exact dr_refl | apply dr_keep | apply dr_drop)), rfl, rfl⟩)
    | (have hp := planT_f (n := n) (by omega); rw [hp]; exact ⟨.tuple #[.agg (ints [0, 0, 0, 0, 0]).toArray, .int .i64 80], A, resA2 rfl (rv_cell a23 sz23 rfl has_here (by show 5 ≤ 5; decide) rfl) (rv_tmp rfl), Dr.sat (by repeat (first | with_reducible exact dr_refl | apply dr_keep | apply dr_drop)), rfl, rfl⟩)
  · try simp only [decide_eq_true_eq, decide_eq_false_iff_not, Bool.not_eq_true', Bool.not_eq_false', Option.isNone_some, Option.isNone_none, Bool.not_true, Bool.not_false] at h
    refine tl_v rfl (o_move (by conv => lhs; whnf)) ?_
    refine tl_v rfl (o_gtr rfl rfl) ?_
    refine tl_v rfl (o_pick_f rfl (by conv => lhs; whnf)) ?_
    refine tl_v rfl (o_move (by conv => lhs; whnf)) ?_
    refine tl_bool (d := 10) rfl (fun h => ?_) (fun h => ?_)
    · try simp only [decide_eq_true_eq, decide_eq_false_iff_not, Bool.not_eq_true', Bool.not_eq_false', Option.isNone_some, Option.isNone_none, Bool.not_true, Bool.not_false] at h
      refine tl_skip rfl ?_
      refine tl_skip rfl ?_
      refine tl_skip rfl ?_
      refine tl_v rfl (o_pick_t rfl (by conv => lhs; whnf)) ?_
      refine tl_nil ?_
      refine q_then_n ?_
      refine tc_cond_t rfl ?_
      refine tc_seq ?_
      refine tc_reg ?_
      refine tl_v rfl (o_bS (l := ints [0, 0, 0, 0, 0]) pv_nil Try.underlying23 z23 (pl23 Try.underlying23) rfl) ?_
      refine tl_u rfl (o_stUN (l' := ints [0, 0, 0, 0, 0]) rfl upd_here sz23 rfl rfl rfl (by simp) rfl) ?_
      refine tl_v rfl (o_assign (by conv => lhs; whnf)) ?_
      refine tl_nil ?_
      refine q_then_n ?_
      refine tc_ret ?_
      refine q_then_r ?_
      first
      | (have hp := planT_t (n := n) (by omega); rw [hp]; exact ⟨.tuple #[.agg (ints (planL n)).toArray, .int .i64 0], A, resA2 rfl (rv_cell a23 sz23 rfl has_here (by show 5 ≤ 5; decide) rfl) (rv_tmp rfl), Dr.sat (by repeat (first | with_reducible exact dr_refl | apply dr_keep | apply dr_drop)), rfl, rfl⟩)
      | (have hp := planT_f (n := n) (by omega); rw [hp]; exact ⟨.tuple #[.agg (ints [0, 0, 0, 0, 0]).toArray, .int .i64 80], A, resA2 rfl (rv_cell a23 sz23 rfl has_here (by show 5 ≤ 5; decide) rfl) (rv_tmp rfl), Dr.sat (by repeat (first | with_reducible exact dr_refl | apply dr_keep | apply dr_drop)), rfl, rfl⟩)
    · try simp only [decide_eq_true_eq, decide_eq_false_iff_not, Bool.not_eq_true', Bool.not_eq_false', Option.isNone_some, Option.isNone_none, Bool.not_true, Bool.not_false] at h
      refine tl_v rfl (o_move (by conv => lhs; whnf)) ?_
      refine tl_v rfl (by first | exact o_remI rfl rfl (by omega) | exact o_rem rfl rfl (by omega)) ?_
      refine tl_v rfl (o_nei rfl rfl) ?_
      refine tl_v rfl (o_pick_f rfl (by conv => lhs; whnf)) ?_
      refine tl_nil ?_
      refine q_then_n ?_
      refine tc_cond rfl (fun h => ?_) (fun h => ?_)
      · try simp only [decide_eq_true_eq, decide_eq_false_iff_not, Bool.not_eq_true', Bool.not_eq_false', Option.isNone_some, Option.isNone_none, Bool.not_true, Bool.not_false] at h
        refine tc_seq ?_
        refine tc_reg ?_
        refine tl_v rfl (o_bS (l := ints [0, 0, 0, 0, 0]) pv_nil Try.underlying23 z23 (pl23 Try.underlying23) rfl) ?_
        refine tl_u rfl (o_stUN (l' := ints [0, 0, 0, 0, 0]) rfl upd_here sz23 rfl rfl rfl (by simp) rfl) ?_
        refine tl_v rfl (o_assign (by conv => lhs; whnf)) ?_
        refine tl_nil ?_
        refine q_then_n ?_
        refine tc_ret ?_
        refine q_then_r ?_
        first
        | (have hp := planT_t (n := n) (by omega); rw [hp]; exact ⟨.tuple #[.agg (ints (planL n)).toArray, .int .i64 0], A, resA2 rfl (rv_cell a23 sz23 rfl has_here (by show 5 ≤ 5; decide) rfl) (rv_tmp rfl), Dr.sat (by repeat (first | with_reducible exact dr_refl | apply dr_keep | apply dr_drop)), rfl, rfl⟩)
        | (have hp := planT_f (n := n) (by omega); rw [hp]; exact ⟨.tuple #[.agg (ints [0, 0, 0, 0, 0]).toArray, .int .i64 80], A, resA2 rfl (rv_cell a23 sz23 rfl has_here (by show 5 ≤ 5; decide) rfl) (rv_tmp rfl), Dr.sat (by repeat (first | with_reducible exact dr_refl | apply dr_keep | apply dr_drop)), rfl, rfl⟩)
      · try simp only [decide_eq_true_eq, decide_eq_false_iff_not, Bool.not_eq_true', Bool.not_eq_false', Option.isNone_some, Option.isNone_none, Bool.not_true, Bool.not_false] at h
        refine tc_skip ?_
        refine q_then_n ?_
        refine tc_seq ?_
        refine tc_reg ?_
        refine tl_v rfl (o_move (by conv => lhs; whnf)) ?_
        refine tl_v rfl (o_move (by conv => lhs; whnf)) ?_
        refine tl_v rfl (by first | exact o_subI rfl rfl (by omega) | exact o_sub rfl rfl) ?_
        refine tl_v rfl (by first | exact o_quoI rfl rfl (by omega) | exact o_quo rfl rfl (by omega)) ?_
        refine tl_v rfl (o_bS (l := ints (planL n)) (pv_cons (by conv => lhs; whnf) (pv_cons (by conv => lhs; whnf) (pv_cons (by conv => lhs; whnf) (pv_cons (by conv => lhs; whnf) (pv_cons (by conv => lhs; whnf) pv_nil))))) Try.underlying23 z23 (pl23 Try.underlying23) rfl) ?_
        refine tl_u rfl (o_stUN (l' := ints (planL n)) rfl upd_here sz23 rfl rfl rfl (by simp) rfl) ?_
        refine tl_v rfl (o_assign (by conv => lhs; whnf)) ?_
        refine tl_nil ?_
        refine q_then_n ?_
        refine tc_ret ?_
        first
        | (have hp := planT_t (n := n) (by omega); rw [hp]; exact ⟨.tuple #[.agg (ints (planL n)).toArray, .int .i64 0], A, resA2 rfl (rv_cell a23 sz23 rfl has_here (by show 5 ≤ 5; decide) rfl) (rv_tmp rfl), Dr.sat (by repeat (first | with_reducible exact dr_refl | apply dr_keep | apply dr_drop)), rfl, rfl⟩)
        | (have hp := planT_f (n := n) (by omega); rw [hp]; exact ⟨.tuple #[.agg (ints [0, 0, 0, 0, 0]).toArray, .int .i64 80], A, resA2 rfl (rv_cell a23 sz23 rfl has_here (by show 5 ≤ 5; decide) rfl) (rv_tmp rfl), Dr.sat (by repeat (first | with_reducible exact dr_refl | apply dr_keep | apply dr_drop)), rfl, rfl⟩)
end Go.Vl

set_option linter.unusedVariables false
set_option linter.unusedSimpArgs false
namespace Go.Vl
open Go Go.Proofs
theorem splice_whole {vs l : List Value} (h : vs.length = l.length) : splice l 0 vs = vs := by
  rw [splice_eq (by omega)]; simp [h]
def magicB : List Nat := [86, 69, 76, 76, 85, 77, 48, 49]
def mbs (ns : List Nat) : List Nat := magicB ++ ns.flatMap (le 8)
def sbB (ns : List Nat) : List Nat := mbs ns ++ le 8 (crc 0 (mbs ns))
theorem mbs_nil : mbs [] = magicB := by unfold mbs; simp
theorem mbs_len (ns : List Nat) : (mbs ns).length = 8 + 8 * ns.length := by
  unfold mbs
  rw [List.length_append]
  induction ns with
  | nil => rfl
  | cons n ns ih => rw [List.flatMap_cons, List.length_append, le_length]; simp at ih ⊢; omega
theorem mbs_take {ns : List Nat} {i v : Nat} (h : ns[i]? = some v) : mbs (ns.take (i + 1)) = mbs (ns.take i) ++ le 8 v := by
  unfold mbs
  obtain ⟨hi, rfl⟩ := List.getElem?_eq_some_iff.1 h
  rw [List.take_succ_eq_append_getElem hi, List.flatMap_append, List.append_assoc]; simp
theorem mbs_lt (ns : List Nat) : ∀ x ∈ mbs ns, x < 256 := by
  intro x hx
  unfold mbs at hx
  rw [List.mem_append, List.mem_flatMap] at hx
  rcases hx with hx | ⟨v, _, hx⟩
  · simp only [magicB, List.mem_cons, List.not_mem_nil, or_false] at hx; omega
  · exact le_bytes 8 v x hx
theorem sbB_len {ns : List Nat} (h : ns.length = 6) : (sbB ns).length = 64 := by unfold sbB; rw [List.length_append, mbs_len, le_length, h]
theorem Sum_1 {A : SP} {a : Option Addr} {m c b : Nat} {xs : List Nat} {E : TypeId} (h1 : Rs A a (bys xs)) (e1 : xs.length = m) (hb : ∀ x ∈ xs, x < 256) (hl : m ≤ 1099511627776) :
    Fn Try.prog 132 #[.slice (some ⟨b, 0, none⟩) 1 1] (A * pt b (cl [.slice a m c] E)) (fun r B => r = .int .u32 ((crc 0 xs : Nat) : Int) ∧ A * pt b (cl [.slice a m c] E) = B) := by
  subst e1
  refine fn_rs (xs := [.slice a xs.length c]) rs_pt0 fun hr => ?_
  refine fn_rs h1.left fun h1 => ?_
  exact Sum_c (ls := [xs]) ⟨_, rfl, hr, fun i hi => by
    match i, hi with
    | 0, _ => exact ⟨a, c, rfl, h1⟩⟩ rfl (by intro l hl; simp at hl; subst hl; exact hb) (by intro l hm; simp at hm; subst hm; exact hl) (by decide)
attribute [local irreducible] crk crL crc Sl pt ro planT mbs
set_option maxRecDepth 20000 in
set_option maxHeartbeats 1000000 in
theorem laid_c {A : SP} {n0 n1 n2 n3 n4 : Nat} (hn : n0 < 9223372036854775808 ∧ n1 < 9223372036854775808 ∧ n2 < 9223372036854775808 ∧ n3 < 9223372036854775808 ∧ n4 < 9223372036854775808) :
    Fn Try.prog 83 #[.agg (ints [(n0 : Int), (n1 : Int), (n2 : Int), (n3 : Int), (n4 : Int)]).toArray] (A) (fun r B => r = .agg (bys (sbB [n0, n1, n2, n3, n4, 0])).toArray ∧ A = B) := by
  refine fn_enterW (args := [.agg (ints [(n0 : Int), (n1 : Int), (n2 : Int), (n3 : Int), (n4 : Int)]).toArray]) Try.func83 rfl Try.ntmps83 (by simp) ?_
  refine tc_seq ?_
  refine tc_reg ?_
  refine tl_x rfl (o_box rfl rfl) ?_
  rintro _ _ ⟨b1, rfl, rfl⟩
  refine tl_x rfl (o_alloc z139 rfl) ?_
  rintro _ _ ⟨b2, rfl, rfl⟩
  refine tl_nil ?_
  refine q_then_n ?_
  refine tc_seq ?_
  refine tc_reg ?_
  refine tl_x rfl (o_buildSliceL (k := 1) (vs := bys magicB) (l := bys magicB) Try.underlying28 sz5 z5 rfl rfl (by decide) (by decide) (by intro v hv; have := List.all_eq_true.1 (bys_all magicB) v hv; cases v <;> first | (simp [oneC] at this; done) | rfl) rfl) ?_
  rintro _ _ ⟨b6, rfl, rfl⟩
  refine tl_x rfl (o_cpyS Try.underlying28 Try.underlying5 rfl (by repeat (first | with_reducible exact upd_here | with_reducible exact upd_pt | apply upd_left))) ?_
  rintro _ _ ⟨rfl, rfl⟩
  refine tl_v rfl (o_assign (by conv => lhs; whnf)) ?_
  refine tl_nil ?_
  refine q_then_n ?_
  refine tc_seq ?_
  refine tc_seq ?_
  refine tc_reg ?_
  refine tl_v rfl (o_fieldAddr (o := 0) Try.underlying23 rfl rfl sz3 rfl) ?_
  refine tl_v rfl (by first | exact o_load p3 rfl (by repeat (first | with_reducible exact has_here | with_reducible exact has_pt | apply has_left)) rfl | exact o_loadC p3 rfl (by assumption)) ?_
  refine tl_v rfl (o_fieldAddr (o := 1) Try.underlying23 rfl rfl sz3 rfl) ?_
  refine tl_v rfl (by first | exact o_load p3 rfl (by repeat (first | with_reducible exact has_here | with_reducible exact has_pt | apply has_left)) rfl | exact o_loadC p3 rfl (by assumption)) ?_
  refine tl_v rfl (o_fieldAddr (o := 2) Try.underlying23 rfl rfl sz3 rfl) ?_
  refine tl_v rfl (by first | exact o_load p3 rfl (by repeat (first | with_reducible exact has_here | with_reducible exact has_pt | apply has_left)) rfl | exact o_loadC p3 rfl (by assumption)) ?_
  refine tl_v rfl (o_fieldAddr (o := 3) Try.underlying23 rfl rfl sz3 rfl) ?_
  refine tl_v rfl (by first | exact o_load p3 rfl (by repeat (first | with_reducible exact has_here | with_reducible exact has_pt | apply has_left)) rfl | exact o_loadC p3 rfl (by assumption)) ?_
  refine tl_v rfl (o_fieldAddr (o := 4) Try.underlying23 rfl rfl sz3 rfl) ?_
  refine tl_v rfl (by first | exact o_load p3 rfl (by repeat (first | with_reducible exact has_here | with_reducible exact has_pt | apply has_left)) rfl | exact o_loadC p3 rfl (by assumption)) ?_
  refine tl_v rfl (o_buildA (vs := ints [(n0 : Int), (n1 : Int), (n2 : Int), (n3 : Int), (n4 : Int)]) Try.underlying183 sz3 z183 rfl rfl rfl (by show 5 ≤ 6; decide) rfl) ?_
  refine tl_v rfl (o_move (by conv => lhs; whnf)) ?_
  refine tl_nil ?_
  refine q_then_n ?_
  refine tc_block ?_
  refine tc_loop (fun kk ρ BB => ∃ (i : Nat) (a3 : Option Addr) (c3 : Nat) (X : SP), (i ≤ 6) ∧ (Rs (A * pt b1 (cl (ints [(n0 : Int), (n1 : Int), (n2 : Int), (n3 : Int), (n4 : Int)]) 23) * pt b2 (cl (List.replicate 64 (.int .u8 0)) 139) * X) a3 (bys (mbs (([n0, n1, n2, n3, n4, 0] : List Nat).take i)))) ∧ kk = 6 - i ∧ ρ 3 = .slice a3 (8 + 8 * i) c3 ∧ ρ 19 = .int .i64 (i : Nat) ∧ ρ 2 = .pointer (some ⟨b2, 0, none⟩) ∧ ρ 18 = .agg (ints [(n0 : Int), (n1 : Int), (n2 : Int), (n3 : Int), (n4 : Int), 0]).toArray ∧ BB = A * pt b1 (cl (ints [(n0 : Int), (n1 : Int), (n2 : Int), (n3 : Int), (n4 : Int)]) 23) * pt b2 (cl (List.replicate 64 (.int .u8 0)) 139) * X) (m := 6 - (0)) ?_ ?_
  · exact ⟨0, some ⟨b6, 0, none⟩, 8, pt b6 (.cells (bys magicB).toArray 5 (8, 9)), by omega, by rw [List.take_zero, mbs_nil]; exact rs_mk, rfl, rfl, rfl, rfl, rfl, rfl⟩
  · intro k ρ B hI
    obtain ⟨i, a3, c3, X, hp0, hp1, hkk1, hE3, hE19, hE2, hE18, rfl⟩ := hI
    refine tc_env (d := 3) hE3 ?_
    refine tc_env (d := 19) hE19 ?_
    refine tc_env (d := 2) hE2 ?_
    refine tc_env (d := 18) hE18 ?_
    clear hE3 hE19 hE2 hE18
    refine tc_seq ?_
    refine tc_reg ?_
    refine tl_v rfl (o_lss rfl rfl) ?_
    refine tl_nil ?_
    refine q_then_n ?_
    refine tc_seq ?_
    refine tc_cond rfl (fun h => ?_) (fun h => ?_)
    · have hi : i < 6 := by simp at h; omega
      obtain ⟨v, hv1, hv2, hv3⟩ : ∃ v : Nat, (ints [(n0 : Int), (n1 : Int), (n2 : Int), (n3 : Int), (n4 : Int), 0])[i]? = some (.int .i64 (v : Int)) ∧ ([n0, n1, n2, n3, n4, 0] : List Nat)[i]? = some v ∧ v < 9223372036854775808 := by
        match i, hi with
        | 0, _ => exact ⟨n0, rfl, rfl, hn.1⟩
        | 1, _ => exact ⟨n1, rfl, rfl, hn.2.1⟩
        | 2, _ => exact ⟨n2, rfl, rfl, hn.2.2.1⟩
        | 3, _ => exact ⟨n3, rfl, rfl, hn.2.2.2.1⟩
        | 4, _ => exact ⟨n4, rfl, rfl, hn.2.2.2.2⟩
        | 5, _ => exact ⟨0, rfl, rfl, by decide⟩
      have hml : (mbs (([n0, n1, n2, n3, n4, 0] : List Nat).take i)).length = 8 + 8 * i := by rw [mbs_len, List.length_take]; simp; omega
      refine tc_skip ?_
      refine q_then_n ?_
      refine tc_seq ?_
      refine tc_block ?_
      refine tc_seq ?_
      refine tc_reg ?_
      refine tl_v rfl (o_index1 Try.underlying183 sz3 p3 rfl rfl (by omega) (by omega) hv1) ?_
      refine tl_v rfl (o_assign (by conv => lhs; whnf)) ?_
      refine tl_nil ?_
      refine q_then_n ?_
      refine tc_reg ?_
      refine tl_v rfl (o_move (by conv => lhs; whnf)) ?_
      refine tl_v rfl (o_move (by conv => lhs; whnf)) ?_
      refine tl_v rfl (by first | exact o_conv64 Try.underlying3 Try.underlying53 rfl | exact o_conv Try.underlying3 Try.underlying53 rfl) ?_
      refine tl_env (d := 24) (v := .int .u64 ((v : Nat) : Int)) (congrArg (fun z : Nat => Value.int .u64 (z : Int)) (Nat.mod_eq_of_lt (by omega))) ?_
      refine tl_c rfl (o_call bd99 rfl (Put64_c (hr := hp1) (hm := hml) (v := v))) ?_
      rintro _ _ ⟨a25, c25, rfl, hc25, rfl⟩
      refine tl_v rfl (o_assign (by conv => lhs; whnf)) ?_
      refine tl_nil ?_
      refine q_block_n (q_then_n ?_)
      refine tc_reg ?_
      refine tl_v rfl (by first | exact o_addI rfl rfl (by omega) | exact o_add rfl rfl) ?_
      refine tl_v rfl (o_move (by conv => lhs; whnf)) ?_
      refine tl_nil ?_
      refine q_then_n ?_
      exact ⟨_, by omega, i + 1, _, _, _, by omega, by rw [mbs_take hv2, ← star_assoc]; exact rs_sl, rfl, rfl, rfl, rfl, rfl, (star_assoc _ _ _)⟩
    · obtain rfl : i = 6 := by simp at h; omega
      rw [show ([n0, n1, n2, n3, n4, 0] : List Nat).take 6 = [n0, n1, n2, n3, n4, 0] from rfl] at hp1
      have hml : (mbs [n0, n1, n2, n3, n4, 0]).length = 56 := mbs_len _
      have hmb := mbs_lt [n0, n1, n2, n3, n4, 0]
      have hcc := crc_lt (s := 0) (by decide) hmb
      refine tc_exit ?_
      refine q_then_e (q_then_e (q_block_x (q_then_n ?_)))
      refine tc_seq ?_
      refine tc_reg ?_
      refine tl_v rfl (o_move (by conv => lhs; whnf)) ?_
      refine tl_v rfl (o_move (by conv => lhs; whnf)) ?_
      refine tl_x rfl (o_buildSlice1 Try.underlying33 sz28 z28 (by conv => lhs; whnf) rfl) ?_
      rintro _ _ ⟨b29, rfl, rfl⟩
      refine tl_c rfl (o_call bd132 rfl (Sum_1 hp1 hml hmb (by decide))) ?_
      rintro _ _ ⟨rfl, rfl⟩
      refine tl_v rfl (by first | exact o_conv64 Try.underlying114 Try.underlying53 rfl | exact o_conv Try.underlying114 Try.underlying53 rfl) ?_
      refine tl_env (d := 31) (v := .int .u64 ((crc 0 (mbs [n0, n1, n2, n3, n4, 0]) : Nat) : Int)) (congrArg (fun z : Nat => Value.int .u64 (z : Int)) (Nat.mod_eq_of_lt (by omega))) ?_
      refine tl_c rfl (o_call bd99 rfl (Put64_c (hr := hp1.left) (hm := hml))) ?_
      rintro _ _ ⟨a32, c32, rfl, hc32, rfl⟩
      refine tl_have (fun g w h => nn_sl (by decide) g w h (by omega)) fun ⟨b32, o32, e32⟩ => ?_
      subst e32
      refine tl_v rfl (o_s2a (m := 64) Try.underlying139 rfl (by decide)) ?_
      refine tl_v rfl (o_ldPN (a := some ⟨b32, o32, none⟩) (i := 0) (vs := bys (sbB [n0, n1, n2, n3, n4, 0])) a139 sz139 rfl rs_sl (by rw [List.drop_zero]; exact List.take_of_length_le (by rw [bys_length, ← sbB]; rw [sbB_len rfl]; decide)) (by rw [bys_length, sbB_len rfl]) (by decide)) ?_
      refine tl_u rfl (o_stUN (l' := bys (sbB [n0, n1, n2, n3, n4, 0])) rfl (by repeat (first | with_reducible exact upd_here | with_reducible exact upd_pt | apply upd_left)) sz139 rfl (by rw [bys_length, sbB_len rfl]) (bys_all _) (by simp) (splice_whole (by rw [bys_length, sbB_len rfl, List.length_replicate]))) ?_
      refine tl_nil ?_
      refine q_then_n ?_
      refine tc_ret ?_
      exact ⟨.agg (bys (sbB [n0, n1, n2, n3, n4, 0])).toArray, A, resA1 rfl (rv_cell a139 sz139 rfl (by repeat (first | with_reducible exact has_here | with_reducible exact has_pt | apply has_left)) (by rw [bys_length, sbB_len rfl]; decide) (by rw [List.drop_zero]; exact List.take_of_length_le (by rw [bys_length, sbB_len rfl]; decide))), Dr.sat (by repeat (first | with_reducible exact dr_refl | apply dr_keep | apply dr_drop)), rfl, rfl⟩
end Go.Vl

set_option linter.unusedVariables false
set_option linter.unusedSimpArgs false
namespace Go.Vl
open Go Go.Proofs
theorem planL_ok {n : Nat} (hn : 36992 ≤ n ∧ n ≤ 4194304 ∧ n % 64 = 0) : planT (n : Int) = ([(n : Int), ((128 : Nat) : Int), ((32768 : Nat) : Int), ((32896 : Nat) : Int), (((n - 32896) / 256 : Nat) : Int)], 0) := by
  rw [planT_t (by omega)]
  unfold planL
  have : ((n : Int) - 32896) / 256 = (((n - 32896) / 256 : Nat) : Int) := by omega
  rw [this]; rfl
theorem Plan_ok {A : SP} {n : Nat} (hn : 36992 ≤ n ∧ n ≤ 4194304 ∧ n % 64 = 0) : Fn Try.prog 18 #[.int .i64 (n : Int)] A (fun r B => r = .tuple #[.agg (ints [(n : Int), ((128 : Nat) : Int), ((32768 : Nat) : Int), ((32896 : Nat) : Int), (((n - 32896) / 256 : Nat) : Int)]).toArray, .int .i64 0] ∧ A = B) := by
  have := Plan_c (A := A) (n := (n : Int))
  rw [planL_ok hn] at this; exact this
theorem PlanR_ok {A : SP} {n : Nat} (hn : 36992 ≤ n ∧ n ≤ 4194304 ∧ n % 64 = 0) : Fn Try.prog 19 #[.int .i64 (n : Int)] A (fun r B => r = .tuple #[.agg (ints [(n : Int), ((128 : Nat) : Int), ((32768 : Nat) : Int), ((32896 : Nat) : Int), (((n - 32896) / 256 : Nat) : Int)]).toArray, .int .i64 0] ∧ A = B) := by
  have := PlanR_c (A := A) (n := (n : Int))
  rw [planL_ok hn] at this; exact this
attribute [local irreducible] crk crL crc Sl pt ro planT mbs sbB
set_option maxRecDepth 20000 in
set_option maxHeartbeats 1000000 in
theorem Line_ok {A : SP} {n : Nat} (hn : 36992 ≤ n ∧ n ≤ 4194304 ∧ n % 64 = 0) :
    Fn Try.prog 20 #[.agg (ints [(n : Int), ((128 : Nat) : Int), ((32768 : Nat) : Int), ((32896 : Nat) : Int), (((n - 32896) / 256 : Nat) : Int)]).toArray] (A) (fun r B => ∃ a c, r = .tuple #[.slice a 64 c, .int .i64 0] ∧ 64 ≤ c ∧ B = A * Sl 1 (.slice a 64 c) 64 (bys (sbB [n, 128, 32768, 32896, (n - 32896) / 256, 0]))) := by
  refine fn_enterW (args := [.agg (ints [(n : Int), ((128 : Nat) : Int), ((32768 : Nat) : Int), ((32896 : Nat) : Int), (((n - 32896) / 256 : Nat) : Int)]).toArray]) Try.func20 rfl Try.ntmps20 (by simp) ?_
  refine tc_seq ?_
  refine tc_reg ?_
  refine tl_x rfl (o_box rfl rfl) ?_
  rintro _ _ ⟨b1, rfl, rfl⟩
  refine tl_v rfl (o_assign (by conv => lhs; whnf)) ?_
  refine tl_v rfl (o_assign (by conv => lhs; whnf)) ?_
  refine tl_nil ?_
  refine q_then_n ?_
  refine tc_seq ?_
  refine tc_seq ?_
  refine tc_reg ?_
  refine tl_v rfl (o_fieldAddr (o := 0) Try.underlying23 rfl rfl sz3 rfl) ?_
  refine tl_v rfl (by first | exact o_load p3 rfl (by repeat (first | with_reducible exact has_here | with_reducible exact has_pt | apply has_left)) rfl | exact o_loadC p3 rfl (by assumption)) ?_
  refine tl_c rfl (o_call bd18 rfl (Plan_ok hn)) ?_
  rintro _ _ ⟨rfl, rfl⟩
  refine tl_v rfl (o_move (by conv => lhs; whnf)) ?_
  refine tl_v rfl (o_extract rfl rfl) ?_
  refine tl_v rfl (o_extract rfl rfl) ?_
  refine tl_x rfl (o_alloc z23 rfl) ?_
  rintro _ _ ⟨b4, rfl, rfl⟩
  refine tl_u rfl (o_stUN (l' := ints [(n : Int), ((128 : Nat) : Int), ((32768 : Nat) : Int), ((32896 : Nat) : Int), (((n - 32896) / 256 : Nat) : Int)]) rfl (by repeat (first | with_reducible exact upd_here | with_reducible exact upd_pt | apply upd_left)) sz23 rfl rfl rfl (by simp) rfl) ?_
  refine tl_v rfl (o_assign (by conv => lhs; whnf)) ?_
  refine tl_nil ?_
  refine q_then_n ?_
  refine tc_seq ?_
  refine tc_reg ?_
  refine tl_v rfl (o_move (by conv => lhs; whnf)) ?_
  refine tl_v rfl (o_nei rfl rfl) ?_
  refine tl_v rfl (o_move (by conv => lhs; whnf)) ?_
  refine tl_bool (d := 15) rfl (fun h => ?_) (fun h => ?_)
  · (exfalso; first | (revert h; simp; done) | (simp at h; done) | (revert h; simp; omega) | (simp at h; omega) | omega)
  · try simp only [decide_eq_true_eq, decide_eq_false_iff_not, Bool.not_eq_true', Bool.not_eq_false', Option.isNone_some, Option.isNone_none, Bool.not_true, Bool.not_false] at h
    refine tl_v rfl (o_loadN (vs := ints [(n : Int), ((128 : Nat) : Int), ((32768 : Nat) : Int), ((32896 : Nat) : Int), (((n - 32896) / 256 : Nat) : Int)]) a23 sz23 rfl (by repeat (first | with_reducible exact has_here | with_reducible exact has_pt | apply has_left)) (by show 5 ≤ 5; decide) rfl) ?_
    refine tl_v rfl (o_loadN (vs := ints [(n : Int), ((128 : Nat) : Int), ((32768 : Nat) : Int), ((32896 : Nat) : Int), (((n - 32896) / 256 : Nat) : Int)]) a23 sz23 rfl (by repeat (first | with_reducible exact has_here | with_reducible exact has_pt | apply has_left)) (by show 5 ≤ 5; decide) rfl) ?_
    refine tl_v rfl (o_nest (k := 5) (l := [(n : Int), ((128 : Nat) : Int), ((32768 : Nat) : Int), ((32896 : Nat) : Int), (((n - 32896) / 256 : Nat) : Int)]) (m := [(n : Int), ((128 : Nat) : Int), ((32768 : Nat) : Int), ((32896 : Nat) : Int), (((n - 32896) / 256 : Nat) : Int)]) Try.underlying23 (by kernel_rfl) (by kernel_rfl) (by kernel_rfl) rfl rfl rfl rfl) ?_
    refine tl_v rfl (o_pick_f rfl (by conv => lhs; whnf)) ?_
    refine tl_nil ?_
    refine q_then_n ?_
    refine tc_cond rfl (fun h => ?_) (fun h => ?_)
    · exfalso; simp at h
    · try simp only [decide_eq_true_eq, decide_eq_false_iff_not, Bool.not_eq_true', Bool.not_eq_false', Option.isNone_some, Option.isNone_none, Bool.not_true, Bool.not_false] at h
      refine tc_skip ?_
      refine q_then_n ?_
      refine tc_seq ?_
      refine tc_reg ?_
      refine tl_v rfl (o_loadN (vs := ints [(n : Int), ((128 : Nat) : Int), ((32768 : Nat) : Int), ((32896 : Nat) : Int), (((n - 32896) / 256 : Nat) : Int)]) a23 sz23 rfl (by repeat (first | with_reducible exact has_here | with_reducible exact has_pt | apply has_left)) (by show 5 ≤ 5; decide) rfl) ?_
      refine tl_c rfl (o_call bd83 rfl (laid_c (by omega))) ?_
      rintro _ _ ⟨rfl, rfl⟩
      refine tl_x rfl (o_alloc z139 rfl) ?_
      rintro _ _ ⟨b6, rfl, rfl⟩
      refine tl_u rfl (o_stUN (l' := bys (sbB [n, 128, 32768, 32896, (n - 32896) / 256, 0])) rfl (by repeat (first | with_reducible exact upd_here | with_reducible exact upd_pt | apply upd_left)) sz139 rfl (by rw [bys_length, sbB_len rfl]) (bys_all _) (by simp) (splice_whole (by rw [bys_length, sbB_len rfl]; rfl))) ?_
      refine tl_nil ?_
      refine q_then_n ?_
      refine tc_seq ?_
      refine tc_reg ?_
      refine tl_v rfl (o_sliceA Try.underlying139 sz5 rfl bnd_none bnd_none (by omega) (by omega)) ?_
      refine tl_v rfl (o_assign (by conv => lhs; whnf)) ?_
      refine tl_v rfl (o_assign (by conv => lhs; whnf)) ?_
      refine tl_nil ?_
      refine q_then_n ?_
      refine tc_ret ?_
      exact ⟨.tuple #[.slice (some ⟨b6, 0, none⟩) 64 64, .int .i64 0], A * Sl 1 (.slice (some ⟨b6, 0, none⟩) 64 64) 64 (bys (sbB [n, 128, 32768, 32896, (n - 32896) / 256, 0])), res2 rfl rfl rfl, fun _ _ h => (Dr.sat (by repeat (first | with_reducible exact dr_refl | apply dr_keep | apply dr_drop))) _ _ (sl_new (k := 1) (n := 64) (cap := 64) (xs := bys (sbB [n, 128, 32768, 32896, (n - 32896) / 256, 0])) h (by omega) (by rw [bys_length, sbB_len rfl]; decide) (by exact List.take_of_length_le (by rw [bys_length, sbB_len rfl]; decide))), _, _, rfl, by decide, rfl⟩
end Go.Vl

set_option linter.unusedVariables false
set_option linter.unusedSimpArgs false
namespace Go.Vl
open Go Go.Proofs
theorem Text_m {A : SP} : Fn Try.prog 84 #[.string ⟨#[86, 69, 76, 76, 85, 77, 48, 49]⟩] A (fun r B => ∃ a c, r = .slice a 8 c ∧ 8 ≤ c ∧ B = A * Sl 1 (.slice a 8 c) 8 (bys magicB)) := Text_c (s := ⟨#[86, 69, 76, 76, 85, 77, 48, 49]⟩)
theorem sbB_def (ns : List Nat) : sbB ns = mbs ns ++ le 8 (crc 0 (mbs ns)) := rfl
attribute [local irreducible] crk crL crc Sl pt ro planT mbs sbB
set_option maxRecDepth 20000 in
set_option maxHeartbeats 1000000 in
theorem LineR_ok {A : SP} {n : Nat} (hn : 36992 ≤ n ∧ n ≤ 4194304 ∧ n % 64 = 0) :
    Fn Try.prog 21 #[.agg (ints [(n : Int), ((128 : Nat) : Int), ((32768 : Nat) : Int), ((32896 : Nat) : Int), (((n - 32896) / 256 : Nat) : Int)]).toArray] (A) (fun r B => ∃ a c, r = .tuple #[.slice a 64 c, .int .i64 0] ∧ 64 ≤ c ∧ B = A * Sl 1 (.slice a 64 c) 64 (bys (sbB [n, 128, 32768, 32896, (n - 32896) / 256, 0]))) := by
  refine fn_enterW (args := [.agg (ints [(n : Int), ((128 : Nat) : Int), ((32768 : Nat) : Int), ((32896 : Nat) : Int), (((n - 32896) / 256 : Nat) : Int)]).toArray]) Try.func21 rfl Try.ntmps21 (by simp) ?_
  refine tc_seq ?_
  refine tc_reg ?_
  refine tl_x rfl (o_box rfl rfl) ?_
  rintro _ _ ⟨b1, rfl, rfl⟩
  refine tl_v rfl (o_assign (by conv => lhs; whnf)) ?_
  refine tl_v rfl (o_assign (by conv => lhs; whnf)) ?_
  refine tl_nil ?_
  refine q_then_n ?_
  refine tc_seq ?_
  refine tc_reg ?_
  refine tl_v rfl (o_fieldAddr (o := 0) Try.underlying23 rfl rfl sz3 rfl) ?_
  refine tl_v rfl (by first | exact o_load p3 rfl (by repeat (first | with_reducible exact has_here | with_reducible exact has_pt | apply has_left)) rfl | exact o_loadC p3 rfl (by assumption)) ?_
  refine tl_c rfl (o_call bd19 rfl (PlanR_ok hn)) ?_
  rintro _ _ ⟨rfl, rfl⟩
  refine tl_v rfl (o_move (by conv => lhs; whnf)) ?_
  refine tl_v rfl (o_extract rfl rfl) ?_
  refine tl_v rfl (o_extract rfl rfl) ?_
  refine tl_x rfl (o_alloc z23 rfl) ?_
  rintro _ _ ⟨b4, rfl, rfl⟩
  refine tl_u rfl (o_stUN (l' := ints [(n : Int), ((128 : Nat) : Int), ((32768 : Nat) : Int), ((32896 : Nat) : Int), (((n - 32896) / 256 : Nat) : Int)]) rfl (by repeat (first | with_reducible exact upd_here | with_reducible exact upd_pt | apply upd_left)) sz23 rfl rfl rfl (by simp) rfl) ?_
  refine tl_v rfl (o_assign (by conv => lhs; whnf)) ?_
  refine tl_nil ?_
  refine q_then_n ?_
  refine tc_seq ?_
  refine tc_seq ?_
  refine tc_reg ?_
  refine tl_v rfl (o_move (by conv => lhs; whnf)) ?_
  refine tl_v rfl (o_nei rfl rfl) ?_
  refine tl_v rfl (o_move (by conv => lhs; whnf)) ?_
  refine tl_bool (d := 17) rfl (fun h => ?_) (fun h => ?_)
  · (exfalso; first | (revert h; simp; done) | (simp at h; done) | (revert h; simp; omega) | (simp at h; omega) | omega)
  · try simp only [decide_eq_true_eq, decide_eq_false_iff_not, Bool.not_eq_true', Bool.not_eq_false', Option.isNone_some, Option.isNone_none, Bool.not_true, Bool.not_false] at h
    refine tl_v rfl (o_loadN (vs := ints [(n : Int), ((128 : Nat) : Int), ((32768 : Nat) : Int), ((32896 : Nat) : Int), (((n - 32896) / 256 : Nat) : Int)]) a23 sz23 rfl (by repeat (first | with_reducible exact has_here | with_reducible exact has_pt | apply has_left)) (by show 5 ≤ 5; decide) rfl) ?_
    refine tl_v rfl (o_loadN (vs := ints [(n : Int), ((128 : Nat) : Int), ((32768 : Nat) : Int), ((32896 : Nat) : Int), (((n - 32896) / 256 : Nat) : Int)]) a23 sz23 rfl (by repeat (first | with_reducible exact has_here | with_reducible exact has_pt | apply has_left)) (by show 5 ≤ 5; decide) rfl) ?_
    refine tl_v rfl (o_nest (k := 5) (l := [(n : Int), ((128 : Nat) : Int), ((32768 : Nat) : Int), ((32896 : Nat) : Int), (((n - 32896) / 256 : Nat) : Int)]) (m := [(n : Int), ((128 : Nat) : Int), ((32768 : Nat) : Int), ((32896 : Nat) : Int), (((n - 32896) / 256 : Nat) : Int)]) Try.underlying23 (by kernel_rfl) (by kernel_rfl) (by kernel_rfl) rfl rfl rfl rfl) ?_
    refine tl_v rfl (o_pick_f rfl (by conv => lhs; whnf)) ?_
    refine tl_nil ?_
    refine q_then_n ?_
    refine tc_cond rfl (fun h => ?_) (fun h => ?_)
    · exfalso; simp at h
    · try simp only [decide_eq_true_eq, decide_eq_false_iff_not, Bool.not_eq_true', Bool.not_eq_false', Option.isNone_some, Option.isNone_none, Bool.not_true, Bool.not_false] at h
      refine tc_skip ?_
      refine q_then_n ?_
      refine tc_seq ?_
      refine tc_reg ?_
      refine tl_c rfl (o_call bd84 rfl (Text_m)) ?_
      rintro _ _ ⟨a22, c22, rfl, hc22, rfl⟩
      refine tl_v rfl (o_assign (by conv => lhs; whnf)) ?_
      refine tl_nil ?_
      refine q_then_n ?_
      refine tc_seq ?_
      refine tc_reg ?_
      refine tl_v rfl (o_fieldAddr (o := 0) Try.underlying23 rfl rfl sz3 rfl) ?_
      refine tl_v rfl (by first | exact o_load p3 rfl (by repeat (first | with_reducible exact has_here | with_reducible exact has_pt | apply has_left)) rfl | exact o_loadC p3 rfl (by assumption)) ?_
      refine tl_v rfl (o_fieldAddr (o := 1) Try.underlying23 rfl rfl sz3 rfl) ?_
      refine tl_v rfl (by first | exact o_load p3 rfl (by repeat (first | with_reducible exact has_here | with_reducible exact has_pt | apply has_left)) rfl | exact o_loadC p3 rfl (by assumption)) ?_
      refine tl_v rfl (o_fieldAddr (o := 2) Try.underlying23 rfl rfl sz3 rfl) ?_
      refine tl_v rfl (by first | exact o_load p3 rfl (by repeat (first | with_reducible exact has_here | with_reducible exact has_pt | apply has_left)) rfl | exact o_loadC p3 rfl (by assumption)) ?_
      refine tl_v rfl (o_fieldAddr (o := 3) Try.underlying23 rfl rfl sz3 rfl) ?_
      refine tl_v rfl (by first | exact o_load p3 rfl (by repeat (first | with_reducible exact has_here | with_reducible exact has_pt | apply has_left)) rfl | exact o_loadC p3 rfl (by assumption)) ?_
      refine tl_v rfl (o_fieldAddr (o := 4) Try.underlying23 rfl rfl sz3 rfl) ?_
      refine tl_v rfl (by first | exact o_load p3 rfl (by repeat (first | with_reducible exact has_here | with_reducible exact has_pt | apply has_left)) rfl | exact o_loadC p3 rfl (by assumption)) ?_
      refine tl_x rfl (o_buildSliceL (k := 1) (vs := ints [(n : Int), ((128 : Nat) : Int), ((32768 : Nat) : Int), ((32896 : Nat) : Int), (((n - 32896) / 256 : Nat) : Int), ((0 : Nat) : Int)]) (l := ints [(n : Int), ((128 : Nat) : Int), ((32768 : Nat) : Int), ((32896 : Nat) : Int), (((n - 32896) / 256 : Nat) : Int), ((0 : Nat) : Int)]) Try.underlying37 sz3 z3 rfl rfl (by decide) (by decide) (by intro v hv; have := List.all_eq_true.1 (ints_all [(n : Int), ((128 : Nat) : Int), ((32768 : Nat) : Int), ((32896 : Nat) : Int), (((n - 32896) / 256 : Nat) : Int), ((0 : Nat) : Int)]) v hv; cases v <;> first | (simp [oneC] at this; done) | rfl) rfl) ?_
      rintro _ _ ⟨b33, rfl, rfl⟩
      refine tl_v rfl (o_assign (by conv => lhs; whnf)) ?_
      refine tl_nil ?_
      refine q_then_n ?_
      refine tc_seq ?_
      refine tc_seq ?_
      refine tc_reg ?_
      refine tl_v rfl (o_assign (by conv => lhs; whnf)) ?_
      refine tl_nil ?_
      refine q_then_n ?_
      refine tc_block ?_
      refine tc_eq (star_swap _ _ _) ?_
      refine tc_loop (fun kk ρ BB => ∃ (i : Nat) (a6 : Option Addr) (c6 : Nat) (X : SP), (i ≤ 6) ∧ (Rs (A * pt b1 (cl (ints [(n : Int), ((128 : Nat) : Int), ((32768 : Nat) : Int), ((32896 : Nat) : Int), (((n - 32896) / 256 : Nat) : Int)]) 23) * pt b4 (cl (ints [(n : Int), ((128 : Nat) : Int), ((32768 : Nat) : Int), ((32896 : Nat) : Int), (((n - 32896) / 256 : Nat) : Int)]) 23) * pt b33 (cl (ints [(n : Int), ((128 : Nat) : Int), ((32768 : Nat) : Int), ((32896 : Nat) : Int), (((n - 32896) / 256 : Nat) : Int), ((0 : Nat) : Int)]) 3) * X) a6 (bys (mbs (([n, 128, 32768, 32896, (n - 32896) / 256, 0] : List Nat).take i)))) ∧ kk = 6 - i ∧ ρ 6 = .slice a6 (8 + 8 * i) c6 ∧ ρ 8 = .int .i64 (i : Nat) ∧ ρ 7 = .slice (some ⟨b33, 0, none⟩) 6 6 ∧ BB = A * pt b1 (cl (ints [(n : Int), ((128 : Nat) : Int), ((32768 : Nat) : Int), ((32896 : Nat) : Int), (((n - 32896) / 256 : Nat) : Int)]) 23) * pt b4 (cl (ints [(n : Int), ((128 : Nat) : Int), ((32768 : Nat) : Int), ((32896 : Nat) : Int), (((n - 32896) / 256 : Nat) : Int)]) 23) * pt b33 (cl (ints [(n : Int), ((128 : Nat) : Int), ((32768 : Nat) : Int), ((32896 : Nat) : Int), (((n - 32896) / 256 : Nat) : Int), ((0 : Nat) : Int)]) 3) * X) (m := 6 - (0)) ?_ ?_
      · exact ⟨0, a22, c22, Sl 1 (.slice a22 8 c22) 8 (bys magicB), by omega, by rw [List.take_zero, mbs_nil]; exact rs_sl, rfl, rfl, rfl, rfl, rfl⟩
      · intro k ρ B hI
        obtain ⟨i, a6, c6, X, hp0, hp1, hkk1, hE6, hE8, hE7, rfl⟩ := hI
        refine tc_env (d := 6) hE6 ?_
        refine tc_env (d := 8) hE8 ?_
        refine tc_env (d := 7) hE7 ?_
        clear hE6 hE8 hE7
        refine tc_seq ?_
        refine tc_seq ?_
        refine tc_reg ?_
        refine tl_v rfl (o_move (by conv => lhs; whnf)) ?_
        refine tl_v rfl (o_move (by conv => lhs; whnf)) ?_
        refine tl_v rfl (o_len Try.underlying37 rfl) ?_
        refine tl_v rfl (o_lss rfl rfl) ?_
        refine tl_nil ?_
        refine q_then_n ?_
        refine tc_cond rfl (fun h => ?_) (fun h => ?_)
        · have hi : i < 6 := by simp at h; omega
          obtain ⟨v, hv1, hv2, hv3⟩ : ∃ v : Nat, (ints [(n : Int), ((128 : Nat) : Int), ((32768 : Nat) : Int), ((32896 : Nat) : Int), (((n - 32896) / 256 : Nat) : Int), ((0 : Nat) : Int)])[i]? = some (.int .i64 (v : Int)) ∧ ([n, 128, 32768, 32896, (n - 32896) / 256, 0] : List Nat)[i]? = some v ∧ v < 9223372036854775808 := by
            match i, hi with
            | 0, _ => exact ⟨n, rfl, rfl, by omega⟩
            | 1, _ => exact ⟨128, rfl, rfl, by decide⟩
            | 2, _ => exact ⟨32768, rfl, rfl, by decide⟩
            | 3, _ => exact ⟨32896, rfl, rfl, by decide⟩
            | 4, _ => exact ⟨(n - 32896) / 256, rfl, rfl, by omega⟩
            | 5, _ => exact ⟨0, rfl, rfl, by decide⟩
          have hml : (mbs (([n, 128, 32768, 32896, (n - 32896) / 256, 0] : List Nat).take i)).length = 8 + 8 * i := by rw [mbs_len, List.length_take]; simp; omega
          refine tc_skip ?_
          refine q_then_n ?_
          refine tc_seq ?_
          refine tc_block ?_
          refine tc_reg ?_
          refine tl_v rfl (o_move (by conv => lhs; whnf)) ?_
          refine tl_v rfl (o_move (by conv => lhs; whnf)) ?_
          refine tl_v rfl (o_move (by conv => lhs; whnf)) ?_
          refine tl_v rfl (o_ixP1 (a := some ⟨b33, 0, none⟩) Try.underlying37 sz3 rfl rfl (by omega) nn_some) ?_
          refine tl_v rfl (o_ldP (a := some ⟨b33, 0, none⟩) p3 rfl rs_pt0.left hv1) ?_
          refine tl_v rfl (by first | exact o_conv64 Try.underlying3 Try.underlying53 rfl | exact o_conv Try.underlying3 Try.underlying53 rfl) ?_
          refine tl_env (d := 45) (v := .int .u64 ((v : Nat) : Int)) (congrArg (fun z : Nat => Value.int .u64 (z : Int)) (Nat.mod_eq_of_lt (by omega))) ?_
          refine tl_c rfl (o_call bd74 rfl (Little_c (v := v) (n := 8))) ?_
          rintro _ _ ⟨a46, c46, rfl, hc46, rfl⟩
          refine tl_c rfl (o_call bd73 rfl (Two_c (h1 := hp1.left) (h2 := rs_sl) (e1 := hml) (e2 := le_length 8 v) (hl := by omega))) ?_
          rintro _ _ ⟨a47, c47, rfl, hc47, rfl⟩
          refine tl_v rfl (o_assign (by conv => lhs; whnf)) ?_
          refine tl_nil ?_
          refine q_block_n (q_then_n ?_)
          refine tc_reg ?_
          refine tl_v rfl (o_move (by conv => lhs; whnf)) ?_
          refine tl_v rfl (by first | exact o_addI rfl rfl (by omega) | exact o_add rfl rfl) ?_
          refine tl_v rfl (o_assign (by conv => lhs; whnf)) ?_
          refine tl_nil ?_
          refine q_then_n ?_
          exact ⟨_, by omega, i + 1, _, _, X * Sl 1 (.slice a46 8 c46) 8 (bys (le 8 v)) * Sl 1 (.slice a47 (8 + 8 * i + 8) c47) (8 + 8 * i + 8) (bys (mbs (([n, 128, 32768, 32896, (n - 32896) / 256, 0] : List Nat).take i) ++ le 8 v)), by omega, by rw [mbs_take hv2, ← star_assoc, ← star_assoc]; exact rs_sl, rfl, rfl, rfl, rfl, (by rw [← star_assoc, ← star_assoc])⟩
        · obtain rfl : i = 6 := by simp at h; omega
          rw [show ([n, 128, 32768, 32896, (n - 32896) / 256, 0] : List Nat).take 6 = [n, 128, 32768, 32896, (n - 32896) / 256, 0] from rfl] at hp1
          have hml : (mbs [n, 128, 32768, 32896, (n - 32896) / 256, 0]).length = 56 := mbs_len _
          have hmb := mbs_lt [n, 128, 32768, 32896, (n - 32896) / 256, 0]
          have hcc := crc_lt (s := 0) (by decide) hmb
          refine tc_exit ?_
          refine q_then_e (q_then_e (q_block_x (q_then_n ?_)))
          refine tc_seq ?_
          refine tc_reg ?_
          refine tl_v rfl (o_move (by conv => lhs; whnf)) ?_
          refine tl_v rfl (o_move (by conv => lhs; whnf)) ?_
          refine tl_c rfl (o_call bd85 rfl (SumR_c (hr := hp1) (hm := hml) (hb := hmb) (hl := by decide))) ?_
          rintro _ _ ⟨rfl, rfl⟩
          refine tl_v rfl (by first | exact o_conv64 Try.underlying114 Try.underlying53 rfl | exact o_conv Try.underlying114 Try.underlying53 rfl) ?_
          refine tl_env (d := 51) (v := .int .u64 ((crc 0 (mbs [n, 128, 32768, 32896, (n - 32896) / 256, 0]) : Nat) : Int)) (congrArg (fun z : Nat => Value.int .u64 (z : Int)) (Nat.mod_eq_of_lt (by omega))) ?_
          refine tl_c rfl (o_call bd74 rfl (Little_c (v := crc 0 (mbs [n, 128, 32768, 32896, (n - 32896) / 256, 0])) (n := 8))) ?_
          rintro _ _ ⟨a52, c52, rfl, hc52, rfl⟩
          refine tl_c rfl (o_call bd73 rfl (Two_c (h1 := hp1.left) (h2 := rs_sl) (e1 := hml) (e2 := le_length 8 _) (hl := by omega))) ?_
          rintro _ _ ⟨a53, c53, rfl, hc53, rfl⟩
          refine tl_v rfl (o_assign (by conv => lhs; whnf)) ?_
          refine tl_v rfl (o_assign (by conv => lhs; whnf)) ?_
          refine tl_nil ?_
          refine q_then_n ?_
          refine tc_ret ?_
          exact ⟨.tuple #[.slice a53 64 c53, .int .i64 0], A * Sl 1 (.slice a53 64 c53) 64 (bys (sbB [n, 128, 32768, 32896, (n - 32896) / 256, 0])), res2 rfl rfl rfl, fun _ _ h => by rw [sbB_def]; exact Dr.sat (by repeat (first | with_reducible exact dr_refl | apply dr_keep | apply dr_drop)) _ _ h, a53, c53, rfl, hc53, rfl⟩
set_option maxRecDepth 20000 in
set_option maxHeartbeats 1000000 in
theorem LineR_no {A : SP} {i0 i1 i2 i3 i4 : Int} (hn : planT i0 ≠ ([i0, i1, i2, i3, i4], 0)) :
    Fn Try.prog 21 #[.agg (ints [i0, i1, i2, i3, i4]).toArray] (A) (fun r B => r = .tuple #[.slice none 0 0, .int .i64 100] ∧ A = B) := by
  refine fn_enterW (args := [.agg (ints [i0, i1, i2, i3, i4]).toArray]) Try.func21 rfl Try.ntmps21 (by simp) ?_
  refine tc_seq ?_
  refine tc_reg ?_
  refine tl_x rfl (o_box rfl rfl) ?_
  rintro _ _ ⟨b1, rfl, rfl⟩
  refine tl_v rfl (o_assign (by conv => lhs; whnf)) ?_
  refine tl_v rfl (o_assign (by conv => lhs; whnf)) ?_
  refine tl_nil ?_
  refine q_then_n ?_
  refine tc_seq ?_
  refine tc_reg ?_
  refine tl_v rfl (o_fieldAddr (o := 0) Try.underlying23 rfl rfl sz3 rfl) ?_
  refine tl_v rfl (by first | exact o_load p3 rfl (by repeat (first | with_reducible exact has_here | with_reducible exact has_pt | apply has_left)) rfl | exact o_loadC p3 rfl (by assumption)) ?_
  refine tl_c rfl (o_call bd19 rfl (PlanR_c)) ?_
  rintro _ _ ⟨rfl, rfl⟩
  refine tl_v rfl (o_move (by conv => lhs; whnf)) ?_
  refine tl_v rfl (o_extract rfl rfl) ?_
  refine tl_v rfl (o_extract rfl rfl) ?_
  refine tl_x rfl (o_alloc z23 rfl) ?_
  rintro _ _ ⟨b4, rfl, rfl⟩
  refine tl_u rfl (o_stUN (l' := ints (planT i0).1) rfl (by repeat (first | with_reducible exact upd_here | with_reducible exact upd_pt | apply upd_left)) sz23 rfl (by rw [ints_length, planT_len]) (ints_all _) (by simp) (splice_whole (by rw [ints_length, planT_len]; rfl))) ?_
  refine tl_v rfl (o_assign (by conv => lhs; whnf)) ?_
  refine tl_nil ?_
  refine q_then_n ?_
  refine tc_seq ?_
  refine tc_seq ?_
  refine tc_reg ?_
  refine tl_v rfl (o_move (by conv => lhs; whnf)) ?_
  refine tl_v rfl (o_nei rfl rfl) ?_
  refine tl_v rfl (o_move (by conv => lhs; whnf)) ?_
  refine tl_bool (d := 17) rfl (fun h => ?_) (fun h => ?_)
  · try simp only [decide_eq_true_eq, decide_eq_false_iff_not, Bool.not_eq_true', Bool.not_eq_false', Option.isNone_some, Option.isNone_none, Bool.not_true, Bool.not_false] at h
    refine tl_skip rfl ?_
    refine tl_skip rfl ?_
    refine tl_skip rfl ?_
    refine tl_v rfl (o_pick_t rfl (by conv => lhs; whnf)) ?_
    refine tl_nil ?_
    refine q_then_n ?_
    refine tc_cond_t rfl ?_
    refine tc_seq ?_
    refine tc_reg ?_
    refine tl_v rfl (o_assign (by conv => lhs; whnf)) ?_
    refine tl_v rfl (o_assign (by conv => lhs; whnf)) ?_
    refine tl_nil ?_
    refine q_then_n ?_
    refine tc_ret ?_
    refine q_then_r ?_
    exact ⟨.tuple #[.slice none 0 0, .int .i64 100], A, res2 rfl rfl rfl, Dr.sat (by repeat (first | with_reducible exact dr_refl | apply dr_keep | apply dr_drop)), rfl, rfl⟩
  · try simp only [decide_eq_true_eq, decide_eq_false_iff_not, Bool.not_eq_true', Bool.not_eq_false', Option.isNone_some, Option.isNone_none, Bool.not_true, Bool.not_false] at h
    refine tl_v rfl (o_loadN (vs := ints (planT i0).1) a23 sz23 rfl (by repeat (first | with_reducible exact has_here | with_reducible exact has_pt | apply has_left)) (by rw [ints_length, planT_len]; decide) (by rw [List.drop_zero]; exact List.take_of_length_le (by rw [ints_length, planT_len]; decide))) ?_
    refine tl_v rfl (o_loadN (vs := ints [i0, i1, i2, i3, i4]) a23 sz23 rfl (by repeat (first | with_reducible exact has_here | with_reducible exact has_pt | apply has_left)) (by show 5 ≤ 5; decide) rfl) ?_
    refine tl_v rfl (o_nest (k := 5) (l := (planT i0).1) (m := [i0, i1, i2, i3, i4]) Try.underlying23 (by kernel_rfl) (by kernel_rfl) (by kernel_rfl) rfl rfl (planT_len _) rfl) ?_
    refine tl_v rfl (o_pick_f rfl (by conv => lhs; whnf)) ?_
    refine tl_nil ?_
    refine q_then_n ?_
    refine tc_cond rfl (fun h => ?_) (fun h => ?_)
    · try simp only [decide_eq_true_eq, decide_eq_false_iff_not, Bool.not_eq_true', Bool.not_eq_false', Option.isNone_some, Option.isNone_none, Bool.not_true, Bool.not_false] at h
      refine tc_seq ?_
      refine tc_reg ?_
      refine tl_v rfl (o_assign (by conv => lhs; whnf)) ?_
      refine tl_v rfl (o_assign (by conv => lhs; whnf)) ?_
      refine tl_nil ?_
      refine q_then_n ?_
      refine tc_ret ?_
      refine q_then_r ?_
      exact ⟨.tuple #[.slice none 0 0, .int .i64 100], A, res2 rfl rfl rfl, Dr.sat (by repeat (first | with_reducible exact dr_refl | apply dr_keep | apply dr_drop)), rfl, rfl⟩
    · exfalso; rename_i h0; apply hn; simp at h; exact Prod.ext h (by simpa using h0)
end Go.Vl

set_option linter.unusedVariables false
set_option linter.unusedSimpArgs false
namespace Go.Vl
open Go Go.Proofs
theorem sbB_head (n : Nat) (ns : List Nat) : ∃ r, sbB (n :: ns) = magicB ++ (n % 256 :: n / 256 % 256 :: r) := by
  unfold sbB mbs
  rw [List.flatMap_cons]
  have e : le 8 n = n % 256 :: n / 256 % 256 :: le 6 (n / 256 / 256) := rfl
  rw [e]
  exact ⟨_, by simp only [List.append_assoc, List.cons_append]; rfl⟩
theorem sob_magic : Value.bool ((sob magicB).toList == (⟨#[86, 69, 76, 76, 85, 77, 48, 49]⟩ : ByteArray).toList) = .bool true := by
  rw [show sob magicB = (⟨#[86, 69, 76, 76, 85, 77, 48, 49]⟩ : ByteArray) from rfl, beq_self_eq_true]
theorem Plan_w {A : SP} : Fn Try.prog 18 #[.int .i64 36992] A (fun r B => r = .tuple #[.agg (ints [(36992 : Int), ((128 : Nat) : Int), ((32768 : Nat) : Int), ((32896 : Nat) : Int), ((16 : Nat) : Int)]).toArray, .int .i64 0] ∧ A = B) := Plan_ok (n := 36992) (by decide)
theorem Line_w {A : SP} : Fn Try.prog 20 #[.agg (ints [(36992 : Int), ((128 : Nat) : Int), ((32768 : Nat) : Int), ((32896 : Nat) : Int), ((16 : Nat) : Int)]).toArray] A (fun r B => ∃ a c, r = .tuple #[.slice a 64 c, .int .i64 0] ∧ 64 ≤ c ∧ B = A * Sl 1 (.slice a 64 c) 64 (bys (sbB [36992, 128, 32768, 32896, 16, 0]))) := Line_ok (n := 36992) (by decide)
attribute [local irreducible] crk crL crc Sl pt ro planT mbs sbB
set_option maxRecDepth 20000 in
set_option maxHeartbeats 1000000 in
theorem works_c {A : SP} :
    Fn Try.prog 24 #[] (A) (fun r B => r = .bool true ∧ A = B) := by
  refine fn_enterW (args := []) Try.func24 rfl Try.ntmps24 (by simp) ?_
  refine tc_seq ?_
  refine tc_reg ?_
  refine tl_v rfl (o_assign (by conv => lhs; whnf)) ?_
  refine tl_nil ?_
  refine q_then_n ?_
  refine tc_seq ?_
  refine tc_reg ?_
  refine tl_c rfl (o_call bd18 rfl (Plan_w)) ?_
  rintro _ _ ⟨rfl, rfl⟩
  refine tl_v rfl (o_move (by conv => lhs; whnf)) ?_
  refine tl_v rfl (o_extract rfl rfl) ?_
  refine tl_v rfl (o_extract rfl rfl) ?_
  refine tl_x rfl (o_alloc z23 rfl) ?_
  rintro _ _ ⟨b1, rfl, rfl⟩
  refine tl_u rfl (o_stUN (l' := ints [(36992 : Int), ((128 : Nat) : Int), ((32768 : Nat) : Int), ((32896 : Nat) : Int), ((16 : Nat) : Int)]) rfl (by repeat (first | with_reducible exact upd_here | with_reducible exact upd_pt | apply upd_left)) sz23 rfl rfl rfl (by simp) rfl) ?_
  refine tl_v rfl (o_assign (by conv => lhs; whnf)) ?_
  refine tl_nil ?_
  refine q_then_n ?_
  refine tc_seq ?_
  refine tc_reg ?_
  refine tl_v rfl (o_loadN (vs := ints [(36992 : Int), ((128 : Nat) : Int), ((32768 : Nat) : Int), ((32896 : Nat) : Int), ((16 : Nat) : Int)]) a23 sz23 rfl (by repeat (first | with_reducible exact has_here | with_reducible exact has_pt | apply has_left)) (by show 5 ≤ 5; decide) rfl) ?_
  refine tl_c rfl (o_call bd20 rfl (Line_w)) ?_
  rintro _ _ ⟨a11, c11, rfl, hc11, rfl⟩
  obtain ⟨rr, hrr⟩ := sbB_head 36992 [128, 32768, 32896, 16, 0]
  have hlen := sbB_len (ns := [36992, 128, 32768, 32896, 16, 0]) rfl
  have hrs : Rs (A * pt b1 (cl (ints [(36992 : Int), ((128 : Nat) : Int), ((32768 : Nat) : Int), ((32896 : Nat) : Int), ((16 : Nat) : Int)]) 23) * Sl 1 (.slice a11 64 c11) 64 (bys (sbB [36992, 128, 32768, 32896, 16, 0]))) a11 (bys (sbB [36992, 128, 32768, 32896, 16, 0])) := rs_sl
  have e8 : (bys (sbB [36992, 128, 32768, 32896, 16, 0])).take 8 = bys magicB := by rw [hrr, bys_append]; rfl
  have h8 := (rs_cut (cap := c11) (l := 0) (k := 1) hrs (by rw [bys_length, hlen]; omega)).sub 8
  rw [Nat.zero_mul, List.drop_zero, e8] at h8
  refine tl_v rfl (o_move (by conv => lhs; whnf)) ?_
  refine tl_v rfl (o_extract rfl rfl) ?_
  refine tl_v rfl (o_extract rfl rfl) ?_
  refine tl_v rfl (o_assign (by conv => lhs; whnf)) ?_
  refine tl_v rfl (o_assign (by conv => lhs; whnf)) ?_
  refine tl_nil ?_
  refine q_then_n ?_
  refine tc_seq ?_
  refine tc_reg ?_
  refine tl_v rfl (o_move (by conv => lhs; whnf)) ?_
  refine tl_v rfl (o_eqi rfl rfl) ?_
  refine tl_v rfl (o_move (by conv => lhs; whnf)) ?_
  refine tl_bool (d := 16) rfl (fun h => ?_) (fun h => ?_)
  · try simp only [decide_eq_true_eq, decide_eq_false_iff_not, Bool.not_eq_true', Bool.not_eq_false', Option.isNone_some, Option.isNone_none, Bool.not_true, Bool.not_false] at h
    refine tl_v rfl (o_move (by conv => lhs; whnf)) ?_
    refine tl_v rfl (o_eqi rfl rfl) ?_
    refine tl_v rfl (o_pick_t rfl (by conv => lhs; whnf)) ?_
    refine tl_v rfl (o_move (by conv => lhs; whnf)) ?_
    refine tl_bool (d := 20) rfl (fun h => ?_) (fun h => ?_)
    · try simp only [decide_eq_true_eq, decide_eq_false_iff_not, Bool.not_eq_true', Bool.not_eq_false', Option.isNone_some, Option.isNone_none, Bool.not_true, Bool.not_false] at h
      refine tl_v rfl (o_loadN (vs := ints [(36992 : Int), ((128 : Nat) : Int), ((32768 : Nat) : Int), ((32896 : Nat) : Int), ((16 : Nat) : Int)]) a23 sz23 rfl (by repeat (first | with_reducible exact has_here | with_reducible exact has_pt | apply has_left)) (by show 5 ≤ 5; decide) rfl) ?_
      refine tl_v rfl (o_bS (l := ints [(36992 : Int), ((128 : Nat) : Int), ((32768 : Nat) : Int), ((32896 : Nat) : Int), ((16 : Nat) : Int)]) (pv_cons (by conv => lhs; whnf) (pv_cons (by conv => lhs; whnf) (pv_cons (by conv => lhs; whnf) (pv_cons (by conv => lhs; whnf) (pv_cons (by conv => lhs; whnf) pv_nil))))) Try.underlying23 z23 (pl23 Try.underlying23) rfl) ?_
      refine tl_v rfl (o_eqst (k := 5) (l := [(36992 : Int), ((128 : Nat) : Int), ((32768 : Nat) : Int), ((32896 : Nat) : Int), ((16 : Nat) : Int)]) (m := [(36992 : Int), ((128 : Nat) : Int), ((32768 : Nat) : Int), ((32896 : Nat) : Int), ((16 : Nat) : Int)]) Try.underlying23 (by kernel_rfl) (by kernel_rfl) (by kernel_rfl) rfl rfl rfl rfl) ?_
      refine tl_v rfl (o_pick_t rfl (by conv => lhs; whnf)) ?_
      refine tl_v rfl (o_move (by conv => lhs; whnf)) ?_
      refine tl_bool (d := 25) rfl (fun h => ?_) (fun h => ?_)
      · try simp only [decide_eq_true_eq, decide_eq_false_iff_not, Bool.not_eq_true', Bool.not_eq_false', Option.isNone_some, Option.isNone_none, Bool.not_true, Bool.not_false] at h
        refine tl_v rfl (o_move (by conv => lhs; whnf)) ?_
        refine tl_v rfl (o_len Try.underlying28 rfl) ?_
        refine tl_v rfl (o_eqi rfl rfl) ?_
        refine tl_v rfl (o_pick_t rfl (by conv => lhs; whnf)) ?_
        refine tl_v rfl (o_move (by conv => lhs; whnf)) ?_
        refine tl_bool (d := 30) rfl (fun h => ?_) (fun h => ?_)
        · try simp only [decide_eq_true_eq, decide_eq_false_iff_not, Bool.not_eq_true', Bool.not_eq_false', Option.isNone_some, Option.isNone_none, Bool.not_true, Bool.not_false] at h
          refine tl_v rfl (o_move (by conv => lhs; whnf)) ?_
          refine tl_v rfl (o_slice Try.underlying28 sz5 rfl bnd_none (bnd_some rfl (by omega)) (by omega) (by omega)) ?_
          refine tl_v rfl (o_b2s (xs := magicB) Try.underlying28 Try.underlying5 Try.underlying9 rfl h8 rfl (by decide)) ?_
          refine tl_v rfl ((o_eqstr rfl rfl).cast sob_magic) ?_
          refine tl_v rfl (o_pick_t rfl (by conv => lhs; whnf)) ?_
          refine tl_v rfl (o_move (by conv => lhs; whnf)) ?_
          refine tl_bool (d := 36) rfl (fun h => ?_) (fun h => ?_)
          · try simp only [decide_eq_true_eq, decide_eq_false_iff_not, Bool.not_eq_true', Bool.not_eq_false', Option.isNone_some, Option.isNone_none, Bool.not_true, Bool.not_false] at h
            refine tl_v rfl (o_move (by conv => lhs; whnf)) ?_
            refine tl_v rfl (o_ixP1 (j := 8) Try.underlying28 sz5 rfl rfl (by decide) (nn_rs hrs (fun _ => by rw [bys_length, hlen]; decide))) ?_
            refine tl_v rfl (o_ldP (v := .int .u8 128) p5 rfl hrs (by rw [hrr]; rfl)) ?_
            refine tl_v rfl (o_eqi rfl rfl) ?_
            refine tl_v rfl (o_pick_t rfl (by conv => lhs; whnf)) ?_
            refine tl_v rfl (o_move (by conv => lhs; whnf)) ?_
            refine tl_bool (d := 42) rfl (fun h => ?_) (fun h => ?_)
            · try simp only [decide_eq_true_eq, decide_eq_false_iff_not, Bool.not_eq_true', Bool.not_eq_false', Option.isNone_some, Option.isNone_none, Bool.not_true, Bool.not_false] at h
              refine tl_v rfl (o_move (by conv => lhs; whnf)) ?_
              refine tl_v rfl (o_ixP1 (j := 9) Try.underlying28 sz5 rfl rfl (by decide) (nn_rs hrs (fun _ => by rw [bys_length, hlen]; decide))) ?_
              refine tl_v rfl (o_ldP (v := .int .u8 144) p5 rfl hrs (by rw [hrr]; rfl)) ?_
              refine tl_v rfl (o_eqi rfl rfl) ?_
              refine tl_v rfl (o_pick_t rfl (by conv => lhs; whnf)) ?_
              refine tl_v rfl (o_assign (by conv => lhs; whnf)) ?_
              refine tl_nil ?_
              refine q_then_n ?_
              refine tc_ret ?_
              exact ⟨.bool true, A, res1 rfl rfl, Dr.sat (by repeat (first | with_reducible exact dr_refl | apply dr_keep | apply dr_drop)), rfl, rfl⟩
            · (exfalso; first | (revert h; simp; done) | (simp at h; done) | (revert h; simp; omega) | (simp at h; omega) | omega)
          · (exfalso; first | (revert h; simp; done) | (simp at h; done) | (revert h; simp; omega) | (simp at h; omega) | omega)
        · (exfalso; first | (revert h; simp; done) | (simp at h; done) | (revert h; simp; omega) | (simp at h; omega) | omega)
      · (exfalso; first | (revert h; simp; done) | (simp at h; done) | (revert h; simp; omega) | (simp at h; omega) | omega)
    · (exfalso; first | (revert h; simp; done) | (simp at h; done) | (revert h; simp; omega) | (simp at h; omega) | omega)
  · (exfalso; first | (revert h; simp; done) | (simp at h; done) | (revert h; simp; omega) | (simp at h; omega) | omega)
end Go.Vl

set_option linter.unusedVariables false
set_option linter.unusedSimpArgs false
namespace Go.Vl
open Go Go.Proofs
def lineT (q0 q1 q2 q3 q4 : Int) : List Nat × Int := if planT q0 = ([q0, q1, q2, q3, q4], 0) then (sbB [q0.toNat, 128, 32768, 32896, (q0.toNat - 32896) / 256, 0], 0) else ([], 100)
theorem lineT_t {q0 q1 q2 q3 q4 : Int} (h : planT q0 = ([q0, q1, q2, q3, q4], 0)) : lineT q0 q1 q2 q3 q4 = (sbB [q0.toNat, 128, 32768, 32896, (q0.toNat - 32896) / 256, 0], 0) := if_pos h
theorem lineT_f {q0 q1 q2 q3 q4 : Int} (h : planT q0 ≠ ([q0, q1, q2, q3, q4], 0)) : lineT q0 q1 q2 q3 q4 = ([], 100) := if_neg h
theorem planT_inv {q0 q1 q2 q3 q4 : Int} (h : planT q0 = ([q0, q1, q2, q3, q4], 0)) : ∃ n : Nat, (36992 ≤ n ∧ n ≤ 4194304 ∧ n % 64 = 0) ∧ q0 = (n : Int) ∧ q1 = ((128 : Nat) : Int) ∧ q2 = ((32768 : Nat) : Int) ∧ q3 = ((32896 : Nat) : Int) ∧ q4 = (((n - 32896) / 256 : Nat) : Int) := by
  unfold planT at h
  split at h
  · rename_i hc
    unfold planL at h
    simp only [Prod.mk.injEq, List.cons.injEq, and_true, true_and] at h
    refine ⟨q0.toNat, ?_, ?_, ?_, ?_, ?_, ?_⟩ <;> omega
  · simp at h
theorem LineR_u {A : SP} {q0 q1 q2 q3 q4 : Int} : Fn Try.prog 21 #[.agg (ints [q0, q1, q2, q3, q4]).toArray] A (fun r B => ∃ a c, r = .tuple #[.slice a (lineT q0 q1 q2 q3 q4).1.length c, .int .i64 (lineT q0 q1 q2 q3 q4).2] ∧ (lineT q0 q1 q2 q3 q4).1.length ≤ c ∧ B = A * Sl 1 (.slice a (lineT q0 q1 q2 q3 q4).1.length c) (lineT q0 q1 q2 q3 q4).1.length (bys (lineT q0 q1 q2 q3 q4).1)) := by
  by_cases h : planT q0 = ([q0, q1, q2, q3, q4], 0)
  · rw [lineT_t h]
    obtain ⟨n, hn, rfl, rfl, rfl, rfl, rfl⟩ := planT_inv h
    rw [Int.toNat_natCast, sbB_len rfl]
    exact LineR_ok hn
  · rw [lineT_f h]
    intro g w hs
    refine (LineR_no h g w hs).mono ?_
    rintro e w' ⟨v, B, rfl, ⟨rfl, rfl⟩, hB⟩
    exact ⟨_, _, rfl, ⟨none, 0, rfl, Nat.le_refl 0, rfl⟩, sl_nil hB⟩
end Go.Vl

set_option linter.unusedVariables false
set_option linter.unusedSimpArgs false
namespace Go.Vl
open Go Go.Proofs
def stE (s : DevS) : Int := if s.off = true then 5 else 0
theorem stE_rdy (s : DevS) (h : s.off = true) : rdy s.ls.length s.off 0 0 = 5 := by unfold rdy; rw [if_pos h]
theorem Load0_c {A R : SP} {C : SP → SP} {d : Nat} {s : DevS} (hc : Ct A (Dev d s) R C) : Fn Try.prog 27 #[.pointer (some ⟨d, 0, none⟩), .int .i64 0, .int .i64 0] A (fun r B => ∃ v : Value, r = .tuple #[v, .int .i64 (stE s)] ∧ A = B) := by
  by_cases h : s.off = true
  · have e : stE s = 5 := if_pos h
    have := LoadNo_c hc (p := 0) (m := 0) (by omega) (by omega) (by rw [stE_rdy s h]; decide)
    rw [stE_rdy s h] at this
    rw [e]
    exact this.mono fun _ _ ⟨h1, h2⟩ => ⟨_, h1, h2⟩
  · have e : stE s = 0 := if_neg h
    rw [e]
    intro g w hs
    refine (Load_c hc (p := 0) (m := 0) (by simpa using h) (by omega) g w hs).mono ?_
    rintro e w' ⟨v, B, rfl, ⟨a, c, rfl, _, rfl⟩, hB⟩
    exact ⟨_, _, rfl, ⟨_, rfl, rfl⟩, hB.left⟩
attribute [local irreducible] crk crL crc Sl pt ro mbs sbB planT Dev
theorem alive_c {A R : SP} {C : SP → SP} {d : Nat} {s : DevS} (hc : Ct A (Dev d s) R C := by repeat (first | with_reducible exact ct_here | apply ct_left)) :
    Fn Try.prog 119 #[.pointer (some ⟨d, 0, none⟩)] (A) (fun r B => r = .int .i64 (stE s) ∧ A = B) := by
  refine fn_enterW (args := [.pointer (some ⟨d, 0, none⟩)]) Try.func119 rfl Try.ntmps119 (by simp) ?_
  refine tc_seq ?_
  refine tc_reg ?_
  refine tl_v rfl (o_assign (by conv => lhs; whnf)) ?_
  refine tl_nil ?_
  refine q_then_n ?_
  refine tc_seq ?_
  refine tc_reg ?_
  refine tl_v rfl (o_move (by conv => lhs; whnf)) ?_
  refine tl_c rfl (o_call bd27 rfl (Load0_c hc)) ?_
  rintro _ _ ⟨v7, rfl, rfl⟩
  refine tl_v rfl (o_move (by conv => lhs; whnf)) ?_
  refine tl_v rfl (o_extract rfl rfl) ?_
  refine tl_v rfl (o_extract rfl rfl) ?_
  refine tl_v rfl (o_assign (by conv => lhs; whnf)) ?_
  refine tl_v rfl (o_assign (by conv => lhs; whnf)) ?_
  refine tl_nil ?_
  refine q_then_n ?_
  refine tc_seq ?_
  refine tc_reg ?_
  refine tl_v rfl (o_move (by conv => lhs; whnf)) ?_
  refine tl_v rfl (o_assign (by conv => lhs; whnf)) ?_
  refine tl_nil ?_
  refine q_then_n ?_
  refine tc_ret ?_
  exact ⟨.int .i64 (stE s), A, res1 rfl rfl, fun _ _ h => h, rfl, rfl⟩
theorem Range0_c {A R : SP} {C : SP → SP} {d : Nat} {s : DevS} (hc : Ct A (Dev d s) R C := by repeat (first | with_reducible exact ct_here | apply ct_left)) {at_ : Int} :
    Fn Try.prog 60 #[.pointer (some ⟨d, 0, none⟩), .int .i64 at_, .int .i64 0] (A) (fun r B => r = .int .i64 (stE s) ∧ A = B) := by
  refine fn_enterW (args := [.pointer (some ⟨d, 0, none⟩), .int .i64 at_, .int .i64 0]) Try.func60 rfl Try.ntmps60 (by simp) ?_
  refine tc_seq ?_
  refine tc_reg ?_
  refine tl_v rfl (o_assign (by conv => lhs; whnf)) ?_
  refine tl_nil ?_
  refine q_then_n ?_
  refine tc_seq ?_
  refine tc_seq ?_
  refine tc_reg ?_
  refine tl_v rfl (o_move (by conv => lhs; whnf)) ?_
  refine tl_c rfl (o_call bd119 rfl (alive_c hc)) ?_
  rintro _ _ ⟨rfl, rfl⟩
  refine tl_v rfl (o_assign (by conv => lhs; whnf)) ?_
  refine tl_nil ?_
  refine q_then_n ?_
  refine tc_seq ?_
  refine tc_reg ?_
  refine tl_v rfl (o_move (by conv => lhs; whnf)) ?_
  refine tl_v rfl (o_nei rfl rfl) ?_
  refine tl_nil ?_
  refine q_then_n ?_
  refine tc_cond rfl (fun h => ?_) (fun h => ?_)
  · try simp only [decide_eq_true_eq, decide_eq_false_iff_not, Bool.not_eq_true', Bool.not_eq_false', Option.isNone_some, Option.isNone_none, Bool.not_true, Bool.not_false] at h
    refine tc_seq ?_
    refine tc_reg ?_
    refine tl_v rfl (o_move (by conv => lhs; whnf)) ?_
    refine tl_v rfl (o_assign (by conv => lhs; whnf)) ?_
    refine tl_nil ?_
    refine q_then_n ?_
    refine tc_ret ?_
    refine q_then_r ?_
    first | exact ⟨.int .i64 (stE s), A, res1 rfl rfl, fun _ _ h => h, rfl, rfl⟩ | exact ⟨.int .i64 0, A, res1 rfl rfl, fun _ _ h => h, by rw [h0], rfl⟩
  · have h0 : stE s = 0 := by simpa using h
    refine tc_skip ?_
    refine q_then_n ?_
    refine tc_seq ?_
    refine tc_seq ?_
    refine tc_reg ?_
    refine tl_v rfl (o_move (by conv => lhs; whnf)) ?_
    refine tl_v rfl (o_lss rfl rfl) ?_
    refine tl_nil ?_
    refine q_then_n ?_
    refine tc_cond rfl (fun h => ?_) (fun h => ?_)
    · try simp only [decide_eq_true_eq, decide_eq_false_iff_not, Bool.not_eq_true', Bool.not_eq_false', Option.isNone_some, Option.isNone_none, Bool.not_true, Bool.not_false] at h
      refine tc_seq ?_
      refine tc_reg ?_
      refine tl_v rfl (o_assign (by conv => lhs; whnf)) ?_
      refine tl_nil ?_
      refine q_then_n ?_
      refine tc_ret ?_
      refine q_then_r ?_
      first | exact ⟨.int .i64 (stE s), A, res1 rfl rfl, fun _ _ h => h, rfl, rfl⟩ | exact ⟨.int .i64 0, A, res1 rfl rfl, fun _ _ h => h, by rw [h0], rfl⟩
    · (exfalso; first | (revert h; simp; done) | (simp at h; done) | (revert h; simp; omega) | (simp at h; omega) | omega)
theorem state_c {A R : SP} {C : SP → SP} {d : Nat} {s : DevS} (hc : Ct A (Dev d s) R C := by repeat (first | with_reducible exact ct_here | apply ct_left)) :
    Fn Try.prog 102 #[.pointer (some ⟨d, 0, none⟩)] (A) (fun r B => r = .int .i64 (stE s) ∧ A = B) := by
  refine fn_enterW (args := [.pointer (some ⟨d, 0, none⟩)]) Try.func102 rfl Try.ntmps102 (by simp) ?_
  refine tc_seq ?_
  refine tc_reg ?_
  refine tl_v rfl (o_assign (by conv => lhs; whnf)) ?_
  refine tl_nil ?_
  refine q_then_n ?_
  refine tc_seq ?_
  refine tc_reg ?_
  refine tl_v rfl (o_move (by conv => lhs; whnf)) ?_
  refine tl_c rfl (o_call bd60 rfl (Range0_c hc)) ?_
  rintro _ _ ⟨rfl, rfl⟩
  refine tl_v rfl (o_assign (by conv => lhs; whnf)) ?_
  refine tl_nil ?_
  refine q_then_n ?_
  refine tc_ret ?_
  exact ⟨.int .i64 (stE s), A, res1 rfl rfl, fun _ _ h => h, rfl, rfl⟩
end Go.Vl

set_option linter.unusedVariables false
set_option linter.unusedSimpArgs false
namespace Go.Vl
open Go Go.Proofs
theorem bys_eq (s : List Nat) : bys s = (s.map fun n : Nat => (n : Int)).map (Value.int .u8) := by rw [bys, List.map_map]; rfl
section
variable {P : Program} {n : Nat} {ρ : Env} {dst : Option Nat} {ty : TypeId} {pos : String} {after : Array Edge} {gd : Option (Nat × Bool)} {A : SP}
theorem o_nearrB {t t' e : TypeId} {x y : Operand} {len : Nat} {xs ys : List Nat} (hu : P.underlying t = some (.array len e)) (hk : szE P e = some 1) (he : P.underlying e = some (.int .u8)) (hp : plainE P e = true)
    (hge : P.eqGuardType P.depth t = false) (hx : ev n ρ x = .agg (bys xs).toArray) (hy : ev n ρ y = .agg (bys ys).toArray) (h1 : xs.length = len) (h2 : ys.length = len) :
    OpV P n ρ A ⟨dst, .binOp .neq t x y t', ty, pos, after, gd⟩ (.bool (!decide (xs = ys))) := by
  have := o_nearr (A := A) (dst := dst) (ty := ty) (pos := pos) (after := after) (gd := gd) (t' := t') hu hk he hp hge (by rw [hx, bys_eq]) (by rw [hy, bys_eq]) (by rw [List.length_map, h1]) (by rw [List.length_map, h2])
  rwa [show decide ((xs.map fun n : Nat => (n : Int)) = (ys.map fun n : Nat => (n : Int))) = decide (xs = ys) from by simp only [map_inj]] at this
end
def rdT (n : Nat) (I : List Nat) : List Int × Int := if I.take 64 = sbB [n, 128, 32768, 32896, (n - 32896) / 256, 0] then ([(n : Int), ((128 : Nat) : Int), ((32768 : Nat) : Int), ((32896 : Nat) : Int), (((n - 32896) / 256 : Nat) : Int)], 0) else ([0, 0, 0, 0, 0], 100)
theorem rdT_t {n : Nat} {I : List Nat} (h : I.take 64 = sbB [n, 128, 32768, 32896, (n - 32896) / 256, 0]) : rdT n I = ([(n : Int), ((128 : Nat) : Int), ((32768 : Nat) : Int), ((32896 : Nat) : Int), (((n - 32896) / 256 : Nat) : Int)], 0) := if_pos h
theorem rdT_f {n : Nat} {I : List Nat} (h : I.take 64 ≠ sbB [n, 128, 32768, 32896, (n - 32896) / 256, 0]) : rdT n I = ([0, 0, 0, 0, 0], 100) := if_neg h
attribute [local irreducible] crk crL crc Sl pt ro mbs sbB planT Dev imgS
set_option maxRecDepth 20000 in
set_option maxHeartbeats 1000000 in
theorem Read_ok {A R : SP} {C : SP → SP} {d : Nat} {s : DevS} (hc : Ct A (Dev d s) R C := by repeat (first | with_reducible exact ct_here | apply ct_left)) {n : Nat} (hoff : s.off = false) (hlen : s.ls.length * 64 = n) (hn : 36992 ≤ n ∧ n ≤ 4194304 ∧ n % 64 = 0) (hil : (imgS s).length = n) :
    Fn Try.prog 48 #[.pointer (some ⟨d, 0, none⟩)] (A) (fun r B => r = .tuple #[.agg (ints (rdT n (imgS s)).1).toArray, .int .i64 (rdT n (imgS s)).2] ∧ A = B) := by
  refine fn_enterW (args := [.pointer (some ⟨d, 0, none⟩)]) Try.func48 rfl Try.ntmps48 (by simp) ?_
  have hst : stE s = 0 := by unfold stE; rw [hoff]; rfl
  obtain ⟨rfl, hC⟩ := hc
  refine tc_seq ?_
  refine tc_reg ?_
  refine tl_x rfl (o_alloc z23 rfl) ?_
  rintro _ _ ⟨b2, rfl, rfl⟩
  refine tl_v rfl (o_assign (by conv => lhs; whnf)) ?_
  refine tl_nil ?_
  refine q_then_n ?_
  refine tc_seq ?_
  refine tc_seq ?_
  refine tc_reg ?_
  refine tl_v rfl (o_move (by conv => lhs; whnf)) ?_
  refine tl_c rfl (o_call bd102 rfl (state_c (s := s))) ?_
  rintro _ _ ⟨rfl, rfl⟩
  refine tl_env (d := 9) (v := .int .i64 0) (congrArg (Value.int .i64) hst) ?_
  refine tl_v rfl (o_assign (by conv => lhs; whnf)) ?_
  refine tl_nil ?_
  refine q_then_n ?_
  refine tc_seq ?_
  refine tc_reg ?_
  refine tl_v rfl (o_move (by conv => lhs; whnf)) ?_
  refine tl_v rfl (o_nei rfl rfl) ?_
  refine tl_nil ?_
  refine q_then_n ?_
  refine tc_cond rfl (fun h => ?_) (fun h => ?_)
  · exfalso; simp at h
  · try simp only [decide_eq_true_eq, decide_eq_false_iff_not, Bool.not_eq_true', Bool.not_eq_false', Option.isNone_some, Option.isNone_none, Bool.not_true, Bool.not_false] at h
    refine tc_skip ?_
    refine q_then_n ?_
    refine tc_seq ?_
    refine tc_reg ?_
    refine tl_v rfl (o_move (by conv => lhs; whnf)) ?_
    refine tl_c rfl (o_call bd94 rfl (Size_c (s := s))) ?_
    rintro _ _ ⟨rfl, rfl⟩
    refine tl_env (d := 16) (v := .int .i64 (n : Int)) (congrArg (Value.int .i64) (by omega)) ?_
    refine tl_c rfl (o_call bd18 rfl (Plan_ok hn)) ?_
    rintro _ _ ⟨rfl, rfl⟩
    refine tl_v rfl (o_move (by conv => lhs; whnf)) ?_
    refine tl_v rfl (o_extract rfl rfl) ?_
    refine tl_v rfl (o_extract rfl rfl) ?_
    refine tl_x rfl (o_alloc z23 rfl) ?_
    rintro _ _ ⟨b5, rfl, rfl⟩
    refine tl_u rfl (o_stUN (l' := ints [(n : Int), ((128 : Nat) : Int), ((32768 : Nat) : Int), ((32896 : Nat) : Int), (((n - 32896) / 256 : Nat) : Int)]) rfl (by repeat (first | with_reducible exact upd_here | with_reducible exact upd_pt | apply upd_left)) sz23 rfl rfl rfl (by simp) rfl) ?_
    refine tl_v rfl (o_assign (by conv => lhs; whnf)) ?_
    refine tl_nil ?_
    refine q_then_n ?_
    refine tc_seq ?_
    refine tc_seq ?_
    refine tc_reg ?_
    refine tl_v rfl (o_move (by conv => lhs; whnf)) ?_
    refine tl_v rfl (o_nei rfl rfl) ?_
    refine tl_nil ?_
    refine q_then_n ?_
    refine tc_cond rfl (fun h => ?_) (fun h => ?_)
    · exfalso; simp at h
    · try simp only [decide_eq_true_eq, decide_eq_false_iff_not, Bool.not_eq_true', Bool.not_eq_false', Option.isNone_some, Option.isNone_none, Bool.not_true, Bool.not_false] at h
      refine tc_skip ?_
      refine q_then_n ?_
      refine tc_seq ?_
      refine tc_reg ?_
      refine tl_v rfl (o_move (by conv => lhs; whnf)) ?_
      refine tl_c rfl (o_call bd27 rfl (Load_c (s := s) (p := 0) (m := 64) (hoff := hoff) (hpm := by omega))) ?_
      rintro _ _ ⟨a25, c25, rfl, hc25, rfl⟩
      refine tl_have (fun g w h => nn_sl (by decide) g w h (by decide)) fun ⟨b25, o25, e25⟩ => ?_
      subst e25
      have hI : ((imgS s).take 64).length = 64 := by rw [List.length_take]; omega
      refine tl_v rfl (o_move (by conv => lhs; whnf)) ?_
      refine tl_v rfl (o_extract rfl rfl) ?_
      refine tl_v rfl (o_extract rfl rfl) ?_
      refine tl_v rfl (o_assign (by conv => lhs; whnf)) ?_
      refine tl_v rfl (o_assign (by conv => lhs; whnf)) ?_
      refine tl_nil ?_
      refine q_then_n ?_
      refine tc_seq ?_
      refine tc_seq ?_
      refine tc_regh mo dr_refl ?_
      show TH _ _ _ _ _ 10 #[false, false, false, false, false, false, false, false, false, false] _ _
      refine th_take (i := 0) (listed' := #[true, false, false, false, false, false, false, false, false, false]) rfl (by kernel_rfl) (by kernel_rfl) (by kernel_rfl) rfl rfl (o_move (by conv => lhs; whnf)) ?_
      refine th_take (i := 1) (listed' := #[true, true, false, false, false, false, false, false, false, false]) rfl (by kernel_rfl) (by kernel_rfl) (by kernel_rfl) rfl rfl (o_nei rfl rfl) ?_
      refine th_take (i := 2) (listed' := #[true, true, true, false, false, false, false, false, false, false]) rfl (by kernel_rfl) (by kernel_rfl) (by kernel_rfl) rfl rfl (o_move (by conv => lhs; whnf)) ?_
      refine th_bool (d := 30) rfl (fun h => ?_) (fun h => ?_)
      · (exfalso; first | (revert h; simp; done) | (simp at h; done) | (revert h; simp; omega) | (simp at h; omega) | omega)
      · try simp only [decide_eq_true_eq, decide_eq_false_iff_not, Bool.not_eq_true', Bool.not_eq_false', Option.isNone_some, Option.isNone_none, Bool.not_true, Bool.not_false] at h
        refine th_take (i := 3) (listed' := #[true, true, true, true, false, false, false, false, false, false]) rfl (by kernel_rfl) (by kernel_rfl) (by kernel_rfl) rfl rfl (o_move (by conv => lhs; whnf)) ?_
        refine th_take (i := 4) (listed' := #[true, true, true, true, true, false, false, false, false, false]) rfl (by kernel_rfl) (by kernel_rfl) (by kernel_rfl) rfl rfl (o_s2a (m := 64) Try.underlying139 rfl (by decide)) ?_
        refine th_take (i := 5) (listed' := #[true, true, true, true, true, true, false, false, false, false]) rfl (by kernel_rfl) (by kernel_rfl) (by kernel_rfl) rfl rfl (o_ldPN (a := some ⟨b25, o25, none⟩) (i := 0) (vs := bys ((imgS s).take 64)) a139 sz139 rfl rs_sl (by rw [List.drop_zero, List.drop_zero]; exact List.take_of_length_le (by rw [bys_length, hI]; decide)) (by rw [bys_length, hI]) (by decide)) ?_
        refine th_take (i := 6) (listed' := #[true, true, true, true, true, true, true, false, false, false]) rfl (by kernel_rfl) (by kernel_rfl) (by kernel_rfl) rfl rfl (o_loadN (vs := ints [(n : Int), ((128 : Nat) : Int), ((32768 : Nat) : Int), ((32896 : Nat) : Int), (((n - 32896) / 256 : Nat) : Int)]) a23 sz23 rfl (by repeat (first | with_reducible exact has_here | with_reducible exact has_pt | apply has_left)) (by show 5 ≤ 5; decide) rfl) ?_
        refine th_one (i := 7) (by kernel_rfl) ?_
        refine oh_c (i := 7) (listed' := #[true, true, true, true, true, true, true, true, false, false]) rfl rfl rfl (o_call bd83 rfl (laid_c (by omega))) ?_
        rintro _ _ ⟨rfl, rfl⟩
        refine ⟨by repeat (first | with_reducible exact dr_refl | apply dr_keep | apply dr_drop), ?_⟩
        refine th_take (i := 8) (listed' := #[true, true, true, true, true, true, true, true, true, false]) rfl (by kernel_rfl) (by kernel_rfl) (by kernel_rfl) rfl rfl (o_nearrB (xs := (imgS s).take 64) (ys := sbB [n, 128, 32768, 32896, (n - 32896) / 256, 0]) Try.underlying139 sz5 Try.underlying5 p5 (by kernel_rfl) rfl rfl hI (sbB_len rfl)) ?_
        refine th_take (i := 9) (listed' := #[true, true, true, true, true, true, true, true, true, true]) rfl (by kernel_rfl) (by kernel_rfl) (by kernel_rfl) rfl rfl (o_pick_f rfl (by conv => lhs; whnf)) ?_
        refine th_done (by kernel_rfl) ?_
        refine q_then_n ?_
        refine tc_cond rfl (fun h => ?_) (fun h => ?_)
        · try simp only [decide_eq_true_eq, decide_eq_false_iff_not, Bool.not_eq_true', Bool.not_eq_false', Option.isNone_some, Option.isNone_none, Bool.not_true, Bool.not_false] at h
          refine tc_seq ?_
          refine tc_reg ?_
          refine tl_v rfl (o_bS (l := ints [0, 0, 0, 0, 0]) pv_nil Try.underlying23 z23 (pl23 Try.underlying23) rfl) ?_
          refine tl_u rfl (o_stUN (l' := ints [0, 0, 0, 0, 0]) rfl (by repeat (first | with_reducible exact upd_here | with_reducible exact upd_pt | apply upd_left)) sz23 rfl rfl rfl (by simp) rfl) ?_
          refine tl_v rfl (o_assign (by conv => lhs; whnf)) ?_
          refine tl_nil ?_
          refine q_then_n ?_
          refine tc_ret ?_
          refine q_then_r ?_
          first
          | (have hp := rdT_t (n := n) (I := imgS s) (by simpa using h); rw [hp]; exact ⟨.tuple #[.agg (ints [(n : Int), ((128 : Nat) : Int), ((32768 : Nat) : Int), ((32896 : Nat) : Int), (((n - 32896) / 256 : Nat) : Int)]).toArray, .int .i64 0], R * Dev d s, resA2 rfl (rv_cell a23 sz23 rfl (by repeat (first | with_reducible exact has_here | with_reducible exact has_pt | apply has_left)) (by show 5 ≤ 5; decide) rfl) (rv_tmp rfl), Dr.sat (by repeat (first | with_reducible exact dr_refl | apply dr_keep | apply dr_drop)), rfl, rfl⟩)
          | (have hp := rdT_f (n := n) (I := imgS s) (by simpa using h); rw [hp]; exact ⟨.tuple #[.agg (ints [0, 0, 0, 0, 0]).toArray, .int .i64 100], R * Dev d s, resA2 rfl (rv_cell a23 sz23 rfl (by repeat (first | with_reducible exact has_here | with_reducible exact has_pt | apply has_left)) (by show 5 ≤ 5; decide) rfl) (rv_tmp rfl), Dr.sat (by repeat (first | with_reducible exact dr_refl | apply dr_keep | apply dr_drop)), rfl, rfl⟩)
        · try simp only [decide_eq_true_eq, decide_eq_false_iff_not, Bool.not_eq_true', Bool.not_eq_false', Option.isNone_some, Option.isNone_none, Bool.not_true, Bool.not_false] at h
          refine tc_skip ?_
          refine q_then_n ?_
          refine tc_seq ?_
          refine tc_reg ?_
          refine tl_v rfl (o_loadN (vs := ints [(n : Int), ((128 : Nat) : Int), ((32768 : Nat) : Int), ((32896 : Nat) : Int), (((n - 32896) / 256 : Nat) : Int)]) a23 sz23 rfl (by repeat (first | with_reducible exact has_here | with_reducible exact has_pt | apply has_left)) (by show 5 ≤ 5; decide) rfl) ?_
          refine tl_u rfl (o_stUN (l' := ints [(n : Int), ((128 : Nat) : Int), ((32768 : Nat) : Int), ((32896 : Nat) : Int), (((n - 32896) / 256 : Nat) : Int)]) rfl (by repeat (first | with_reducible exact upd_here | with_reducible exact upd_pt | apply upd_left)) sz23 rfl rfl rfl (by simp) rfl) ?_
          refine tl_v rfl (o_assign (by conv => lhs; whnf)) ?_
          refine tl_nil ?_
          refine q_then_n ?_
          refine tc_ret ?_
          first
          | (have hp := rdT_t (n := n) (I := imgS s) (by simpa using h); rw [hp]; exact ⟨.tuple #[.agg (ints [(n : Int), ((128 : Nat) : Int), ((32768 : Nat) : Int), ((32896 : Nat) : Int), (((n - 32896) / 256 : Nat) : Int)]).toArray, .int .i64 0], R * Dev d s, resA2 rfl (rv_cell a23 sz23 rfl (by repeat (first | with_reducible exact has_here | with_reducible exact has_pt | apply has_left)) (by show 5 ≤ 5; decide) rfl) (rv_tmp rfl), Dr.sat (by repeat (first | with_reducible exact dr_refl | apply dr_keep | apply dr_drop)), rfl, rfl⟩)
          | (have hp := rdT_f (n := n) (I := imgS s) (by simpa using h); rw [hp]; exact ⟨.tuple #[.agg (ints [0, 0, 0, 0, 0]).toArray, .int .i64 100], R * Dev d s, resA2 rfl (rv_cell a23 sz23 rfl (by repeat (first | with_reducible exact has_here | with_reducible exact has_pt | apply has_left)) (by show 5 ≤ 5; decide) rfl) (rv_tmp rfl), Dr.sat (by repeat (first | with_reducible exact dr_refl | apply dr_keep | apply dr_drop)), rfl, rfl⟩)
end Go.Vl

set_option linter.unusedVariables false
set_option linter.unusedSimpArgs false
namespace Go.Vl.Rg
open Go
/-- Of what make the frame is: a function's, or a round's. -/
class Rm where
  r : Option Nat
def Fc (μ : Rm) : Fence := { Fence.wide with round := μ.r }
/-- The blocks of the deferred calls of loops that were begun: the frame keeps them behind its last slot. -/
def blk : Value → Nat
  | .int _ i => i.toNat
  | _ => 0
def mks : Value → List Nat
  | .tuple vs => vs.toList.map blk
  | _ => []
def mkv (rs : List Nat) : Value := .tuple (rs.map fun r : Nat => Value.int .i64 (r : Int)).toArray
def mark (r : Nat) : Deferred := { target := .collected r, args := #[] }
def mkO : Obj := .deferred (some [])
structure Agr (n : Nat) (ρ : Env) (a : Act) : Prop where
  df : a.defers = (mks (ρ n)).map mark
  sz : a.tmps.size = n
  ev : ∀ t, t < n → a.tmps.getD t undef = ρ t
def put (n : Nat) (ρ : Env) : Option Tmp → Value → Env
  | some d, v => bif Nat.blt d n then upd ρ d v else ρ
  | none, _ => ρ
theorem Agr.plain {n : Nat} {ρ : Env} {a : Act} (h : Agr n ρ a) : Vl.Agr n ρ { a with defers := [] } := ⟨rfl, h.sz, h.ev⟩
theorem Agr.eval {n : Nat} {ρ : Env} {a : Act} (h : Agr n ρ a) : a.eval = Vl.ev n ρ := by
  rw [← h.plain.eval]; rfl
theorem Agr.put {n : Nat} {ρ : Env} {a : Act} (h : Agr n ρ a) (d : Option Tmp) (v : Value) : Agr n (Rg.put n ρ d v) (a.put d v) := by
  cases d with
  | none => exact h
  | some d =>
    simp only [Rg.put]
    cases hb : Nat.blt d n with
    | true =>
      have hlt := Nat.blt_eq.mp hb
      have := h.plain.put (some d) v
      refine ⟨?_, this.sz, this.ev⟩
      have hn : Nat.beq n d = false := by
        cases hb : Nat.beq n d with
        | false => rfl
        | true => have := Nat.eq_of_beq_eq_true hb; omega
      simp only [Act.put, cond_true, upd, hn, cond_false]
      exact h.df
    | false =>
      have hge : n ≤ d := by
        rcases Nat.lt_or_ge d n with hlt | hge
        · rw [Nat.blt_eq.mpr hlt] at hb; cases hb
        · exact hge
      refine ⟨h.df, by simp [Act.put, h.sz], fun t ht => ?_⟩
      simp only [Act.put, cond_false]
      rw [← h.ev t ht, Array.getD_eq_getD_getElem?, Array.getElem?_setIfInBounds, if_neg (by omega), Array.getD_eq_getD_getElem?]
def lift (g : Gh) (n : Nat) (Q : Post) : Exit → Act → World → Prop := fun e a w => okE e = true ∧ ∃ ρ A, Agr n ρ a ∧ sat g w A ∧ Q e ρ A
def TC [μ : Rm] (P : Program) (n : Nat) (c : Code) (Q : Post) (ρ : Env) (A : SP) : Prop :=
  ∀ g a w, Agr n ρ a → sat g w A → c.wpIn (Fc μ) 0 P (lift g n Q) a w
def TL [μ : Rm] (P : Program) (n : Nat) (ops : Array Oper) (Q : Post) (l : List Oper) (ρ : Env) (A : SP) : Prop :=
  ∀ g a w, Agr n ρ a → sat g w A → wpListIn (Fc μ) 0 P ops (lift g n Q) l a w
/-- A call of yield: what it hands back, and what holds of memory behind it. -/
def Yd (P : Program) (l : Nat) (args : Array Value) (A : SP) (Q : Value → SP → Prop) : Prop :=
  ∀ g w, sat g w A → ∃ f tmps assign body, (Instr.yield l args).run P w = .ok (.round l f tmps assign body) w ∧
    RoundIn Fence.wide 0 P l f tmps assign body w fun e w' => ∃ v B, e = .returned v ∧ Q v B ∧ sat g w' B
theorem Yd.mono {P : Program} {l : Nat} {args : Array Value} {A : SP} {Q Q' : Value → SP → Prop} (h : Yd P l args A Q) (k : ∀ v B, Q v B → Q' v B) : Yd P l args A Q' := fun g w hs =>
  let ⟨f, t, a, b, hy, hr⟩ := h g w hs
  ⟨f, t, a, b, hy, hr.mono fun _ _ ⟨v, B, e, q, s⟩ => ⟨v, B, e, k v B q, s⟩⟩
section
variable {μ : Rm} {P : Program} {n : Nat} {Q : Post} {ρ : Env} {A : SP}
theorem tc_imp {c : Code} {Q' : Post} (h : TC P n c Q ρ A) (k : ∀ e ρ A, Q e ρ A → Q' e ρ A) : TC P n c Q' ρ A :=
  fun g a w ha hs => wpIn_mono (h g a w ha hs) fun _ _ _ ⟨o, ρ, A, x, y, z⟩ => ⟨o, ρ, A, x, y, k _ _ _ z⟩
theorem tc_pre {c : Code} {A' : SP} (k : ∀ g w, sat g w A → sat g w A') (h : TC P n c Q ρ A') : TC P n c Q ρ A :=
  fun g a w ha hs => h g a w ha (k g w hs)
theorem tc_eq {c : Code} {A' : SP} (k : A = A') (h : TC P n c Q ρ A') : TC P n c Q ρ A := k ▸ h
theorem tc_env {c : Code} {d : Nat} {v : Value} (h : ρ d = v) (k : TC P n c Q (upd ρ d v) A) : TC P n c Q ρ A := by
  rw [← env_set h] at k; exact k
theorem tc_have {c : Code} {p : Prop} (k : ∀ g w, sat g w A → p) (h : p → TC P n c Q ρ A) : TC P n c Q ρ A :=
  fun g a w ha hs => h (k g w hs) g a w ha hs
theorem tc_seq {x y : Code} (h : TC P n x (thenQ (TC P n y Q) Q) ρ A) : TC P n (x.seq y) Q ρ A := fun g a w ha hs =>
  wpIn_seq (wpIn_mono (h g a w ha hs) fun e a' w' ⟨hok, ρ', A', ha', hs', hq⟩ => by
    cases e with
    | normal => exact hq g a' w' ha' hs'
    | _ => exact ⟨hok, ρ', A', ha', hs', hq⟩)
theorem tc_skip (h : Q .normal ρ A) : TC P n .skip Q ρ A := fun g a w ha hs => wpIn_skip ⟨rfl, ρ, A, ha, hs, h⟩
theorem tc_ret (h : Q .ret ρ A) : TC P n .ret Q ρ A := fun g a w ha hs => wpIn_ret ⟨rfl, ρ, A, ha, hs, h⟩
theorem tc_exit {id : Nat} (h : Q (.exit id) ρ A) : TC P n (.exit id) Q ρ A := fun g a w ha hs => wpIn_exit ⟨rfl, ρ, A, ha, hs, h⟩
theorem tc_block {id : Nat} {c : Code} (h : TC P n c (blockQ id Q) ρ A) : TC P n (.block id c) Q ρ A := fun g a w ha hs =>
  wpIn_block (wpIn_mono (h g a w ha hs) fun e a' w' ⟨hok, ρ', A', ha', hs', hq⟩ => by
    cases e with
    | exit k =>
      simp only [Exit.inBlock]
      by_cases hk : k = id
      · subst hk
        simp only [blockQ, Nat.beq_refl, cond_true] at hq
        rw [if_pos rfl]; exact ⟨rfl, ρ', A', ha', hs', hq⟩
      · have : Nat.beq k id = false := by
          cases hb : Nat.beq k id with
          | false => rfl
          | true => exact absurd (Nat.eq_of_beq_eq_true hb) hk
        simp only [blockQ, this, cond_false] at hq
        rw [if_neg hk]; exact ⟨rfl, ρ', A', ha', hs', hq⟩
    | _ => exact ⟨hok, ρ', A', ha', hs', hq⟩)
theorem tc_cond {c : Operand} {x y : Code} {t : Bool} (hc : ev n ρ c = .bool t) (h1 : t = true → TC P n x Q ρ A) (h2 : t = false → TC P n y Q ρ A) : TC P n (.cond c x y) Q ρ A := fun g a w ha hs => by
  refine wpIn_cond (t := t) (by rw [ha.eval]; exact hc) ?_
  cases t with
  | true => exact h1 rfl g a w ha hs
  | false => exact h2 rfl g a w ha hs
theorem tc_cond_t {c : Operand} {x y : Code} (hc : ev n ρ c = .bool true) (h : TC P n x Q ρ A) : TC P n (.cond c x y) Q ρ A := tc_cond hc (fun _ => h) (fun e => by cases e)
theorem tc_cond_f {c : Operand} {x y : Code} (hc : ev n ρ c = .bool false) (h : TC P n y Q ρ A) : TC P n (.cond c x y) Q ρ A := tc_cond hc (fun e => by cases e) (fun _ => h)
theorem tc_cut {c : Code} (M : Env → SP → Prop) (h : TC P n c (fun e ρ' A' => match e with | .normal => M ρ' A' | e => Q e ρ' A') ρ A) (k : ∀ ρ' A', M ρ' A' → Q .normal ρ' A') : TC P n c Q ρ A :=
  tc_imp h fun e ρ' A' hq => by
    cases e with
    | normal => exact k _ _ hq
    | _ => exact hq
theorem tc_loop {c : Code} (I : Nat → Env → SP → Prop) {m : Nat} (h0 : I m ρ A)
    (round : ∀ k ρ A, I k ρ A → TC P n c (thenQ (fun ρ' A' => ∃ k', k' < k ∧ I k' ρ' A') Q) ρ A) : TC P n (.loop c) Q ρ A := fun g a w ha hs b kk cs hro hb hr => by
  have key : ∀ k ρ A, I k ρ A → ∀ a w, Agr n ρ a → sat g w A → ∃ e a' w', lift g n Q e a' w' ∧ ArrivesIn (Machine.fenced P (Fc μ)) P (lone (b.atR a (.code c :: .inLoop c :: kk)) cs w) b kk cs e a' w' := by
    intro k
    induction k using Nat.strongRecOn with
    | _ k ih =>
      intro ρ A hI a w ha hs
      obtain ⟨e, a₁, w₁, ⟨hok, ρ₁, A₁, ha₁, hs₁, hq⟩, harr⟩ := round k ρ A hI g a w ha hs b (.inLoop c :: kk) cs hro hb hr
      cases e with
      | normal =>
        obtain ⟨k', hlt, hI'⟩ := hq
        obtain ⟨e₂, a₂, w₂, hq₂, harr₂⟩ := ih k' hlt ρ₁ A₁ hI' a₁ w₁ ha₁ hs₁
        exact ⟨e₂, a₂, w₂, hq₂, .of_steps (StepsIn.trans harr (.one (fenced_calm hb hr rfl) stepR_inLoop)) harr₂⟩
      | exit id => exact ⟨_, a₁, w₁, ⟨hok, ρ₁, A₁, ha₁, hs₁, hq⟩, .pass (x := .inLoop c) rfl (fun _ _ => .inl (by simp)) harr⟩
      | goto l => exact ⟨_, a₁, w₁, ⟨hok, ρ₁, A₁, ha₁, hs₁, hq⟩, .pass (x := .inLoop c) rfl (fun _ _ => .inl (by simp)) harr⟩
      | ret => exact ⟨_, a₁, w₁, ⟨hok, ρ₁, A₁, ha₁, hs₁, hq⟩, .pass (x := .inLoop c) rfl (fun _ _ => .inl (by simp)) harr⟩
      | panic ch => exact ⟨_, a₁, w₁, ⟨hok, ρ₁, A₁, ha₁, hs₁, hq⟩, .pass (x := .inLoop c) rfl (fun _ _ => .inl (by simp)) harr⟩
      | outgrown => exact ⟨_, a₁, w₁, ⟨hok, ρ₁, A₁, ha₁, hs₁, hq⟩, .pass (x := .inLoop c) rfl (fun _ _ => .inl (by simp)) harr⟩
  obtain ⟨e, a', w', hq, harr⟩ := key m ρ A h0 a w ha hs
  exact ⟨e, a', w', hq, .of_steps (.one (fenced_calm hb hr rfl) stepR_loop) harr⟩
/-! ### Operations -/
theorem want_eq {ops : Array Oper} {a : Act} {o : Oper} (ha : Agr n ρ a) : Region.wanted o (yielded ops a.tmps) = wantE n ops ρ o := by
  have := Vl.want_eq (ops := ops) (o := o) ha.plain
  exact this
theorem sem_eq {ro : Option Nat} {e : Operand → Value} {o : Oper} {w w' : World} {x : Next} (h : (execOp e o).run P w = .ok x w') (hd : ∀ d, x ≠ .defer d) : (Oper.semAt ro e o).run P w = .ok x w' := by
  cases ro with
  | none => exact h
  | some l =>
    by_cases hc : ∃ c, o.op = .defer c
    · exfalso
      obtain ⟨c, hc⟩ := hc
      unfold execOp at h
      rw [hc] at h
      simp only [] at h
      rw [Sem.run_bind] at h
      cases hr : (resolve e c o.type).run P w with
      | ok d w1 => rw [hr] at h; simp [Result.andThen, pure, Sem.run] at h; exact hd d h.1.symm
      | halt x w1 => rw [hr] at h; simp [Result.andThen] at h
    · rw [Oper.semAt_eq _ _ _ fun c e => hc ⟨c, e⟩]; exact h
section
variable {ops : Array Oper} {o : Oper} {rest : List Oper}
theorem tl_nil (h : Q .normal ρ A) : TL P n ops Q [] ρ A := fun g a w ha hs => wpListIn_nil ⟨rfl, ρ, A, ha, hs, h⟩
theorem tl_eq {A' : SP} {l : List Oper} (k : A = A') (h : TL P n ops Q l ρ A') : TL P n ops Q l ρ A := k ▸ h
theorem tl_pre {A' : SP} {l : List Oper} (k : ∀ g w, sat g w A → sat g w A') (h : TL P n ops Q l ρ A') : TL P n ops Q l ρ A := fun g a w ha hs => h g a w ha (k g w hs)
theorem tl_env {l : List Oper} {d : Nat} {v : Value} (h : ρ d = v) (k : TL P n ops Q l (upd ρ d v) A) : TL P n ops Q l ρ A := by
  rw [← env_set h] at k; exact k
theorem tl_have {l : List Oper} {p : Prop} (k : ∀ g w, sat g w A → p) (h : p → TL P n ops Q l ρ A) : TL P n ops Q l ρ A := fun g a w ha hs => h (k g w hs) g a w ha hs
theorem tl_bool {l : List Oper} {d : Nat} {b : Bool} (hv : ρ d = .bool b) (ht : b = true → TL P n ops Q l (upd ρ d (.bool true)) A) (hf : b = false → TL P n ops Q l (upd ρ d (.bool false)) A) : TL P n ops Q l ρ A := by
  cases b with
  | true => exact tl_env hv (ht rfl)
  | false => exact tl_env hv (hf rfl)
theorem tl_skip (hw : wantE n ops ρ o = false) (k : TL P n ops Q rest (put n ρ o.dst undef) A) : TL P n ops Q (o :: rest) ρ A := fun g a w ha hs => by
  unfold wpListIn
  rw [want_eq ha, hw]
  exact ⟨fun _ _ => trivial, k g _ w (ha.put _ _) hs⟩
theorem tl_v {v : Value} (hw : wantE n ops ρ o = true) (h : OpV P n ρ A o v) (k : TL P n ops Q rest (put n ρ o.dst v) A) : TL P n ops Q (o :: rest) ρ A := fun g a w ha hs => by
  unfold wpListIn
  rw [want_eq ha, hw, if_pos rfl]
  refine ⟨fun _ _ => trivial, ?_⟩
  rw [ha.eval, sem_eq (h g w hs) (by simp)]
  exact k g _ w (ha.put _ _) hs
theorem tl_x {R : Value → SP → Prop} (hw : wantE n ops ρ o = true) (h : OpX P n ρ A o R) (k : ∀ v B, R v B → TL P n ops Q rest (put n ρ o.dst v) B) : TL P n ops Q (o :: rest) ρ A := fun g a w ha hs => by
  unfold wpListIn
  rw [want_eq ha, hw, if_pos rfl]
  refine ⟨fun _ _ => trivial, ?_⟩
  obtain ⟨v, w', B, hr, hb, hR⟩ := h g w hs
  rw [ha.eval, sem_eq hr (by simp)]
  exact k v B hR g _ w' (ha.put _ _) hb
theorem tl_u {B : SP} (hw : wantE n ops ρ o = true) (h : OpU P n ρ A o B) (k : TL P n ops Q rest (put n ρ o.dst undef) B) : TL P n ops Q (o :: rest) ρ A := fun g a w ha hs => by
  unfold wpListIn
  rw [want_eq ha, hw, if_pos rfl]
  refine ⟨fun _ _ => trivial, ?_⟩
  obtain ⟨w', hr, hb⟩ := h g w hs
  rw [ha.eval, sem_eq hr (by simp)]
  exact k g _ w' (ha.put _ _) hb
theorem tl_c {R : Value → SP → Prop} (hw : wantE n ops ρ o = true) (h : OpC P n ρ A o R) (k : ∀ v B, R v B → TL P n ops Q rest (put n ρ o.dst v) B) : TL P n ops Q (o :: rest) ρ A := fun g a w ha hs => by
  unfold wpListIn
  rw [want_eq ha, hw, if_pos rfl]
  refine ⟨fun _ _ => trivial, ?_⟩
  obtain ⟨f, args, w', hr, hc⟩ := h g w hs
  rw [ha.eval, sem_eq hr (by simp)]
  refine ⟨fun h => (by cases h), ?_⟩
  have hc' : CallsIn Fence.wide (0 - 1) P f args w' fun e w'' => ∃ v B, e = .returned v ∧ R v B ∧ sat g w'' B := callsIn_wide.2 hc
  refine CallsIn.mono (show CallsIn (Fc μ) (0 - 1) P f args w' _ from hc') fun e w'' ⟨v, B, he, hR, hb⟩ => ?_
  subst he
  exact k v B hR g _ w'' (ha.put _ _) hb
theorem tc_reg {id : Nat} {l : List Oper} (h : TL P n l.toArray Q l ρ A) : TC P n (.region id l.toArray false) Q ρ A := fun g a w ha hs => wpIn_region_lit (h g a w ha hs)
end
end
/-! ## Functions -/
/-- The marks' blocks. -/
def Mk : List Nat → SP
  | [] => emp
  | r :: rs => Mk rs * pt r mkO
def retW (P : Program) (n : Nat) (fn : Func) (Q : Value → SP → Prop) : Post
  | .ret, ρ, A | .normal, ρ, A => ∃ rs B, mks (ρ n) = rs ∧ (∀ g w, sat g w A → sat g w (B * Mk rs)) ∧ ∃ v A', Res P n fn ρ B v ∧ (∀ g w, sat g w B → sat g w A') ∧ Q v A'
  | _, _, _ => False
theorem leaves_mk {P : Program} {fn : Func} {tmps : Array Value} {R : Ending → World → Prop} {g : Gh} {B : SP} : ∀ (rs : List Nat) (w : World), sat g w (B * Mk rs) →
    (∀ w, sat g w B → ∃ v, (results fn tmps).run P w = .ok v w ∧ R (.returned v) w) → LeavesInM Fence.wide 0 P fn tmps R (rs.map mark) .returning w
  | [], w, hs, h => h w hs.left
  | r :: rs, w, hs, h => by
    have hs' : sat g w (B * Mk rs * pt r mkO) := by rw [star_assoc]; exact hs
    have hr : w.heap[r]? = some mkO := has_here g w hs'
    refine ⟨by simp, .inl ⟨r, _, rfl, run_takeDeferred hr, leaves_mk rs _ ?_ h⟩⟩
    have hu : Upd (B * Mk rs * pt r mkO) r mkO (.deferred none) (B * Mk rs * pt r (.deferred none)) := upd_here
    have := hu.sat hs' (w' := w.putObj r (.deferred none)) (fun k => by
      by_cases hk : k = r
      · subst hk; rw [if_pos rfl]; exact World.putObj_heap_same (Array.getElem?_eq_some_iff.1 hr).1
      · rw [if_neg hk]; exact World.putObj_heap_other hk) rfl rfl rfl
    exact this.left
instance plainM : Rm := ⟨none⟩
theorem fn_enterW {P : Program} {f : FuncId} {fn : Func} {c : Code} {args : List Value} {A : SP} {Q : Value → SP → Prop} {n : Nat} (hf : P.funcs[f]? = some fn) (hb : fn.body = some c)
    (hn : fn.ntmps = n) (hle : args.length ≤ n) (h : @TC ⟨none⟩ P n c (retW P n fn Q) (argEnv und 0 args) A) : Fn P f args.toArray A Q := fun g w hs => by
  refine callsIn_wide.1 (callsIn_of_wp_marks (n := 0) hf hb trivial (wpIn_mono (h g _ w ?_ hs) ?_))
  · have hsz : (args.toArray ++ Array.replicate (fn.ntmps - args.toArray.size) undef).size = n := by simp; omega
    have key : ∀ (l : List Value) (ρ : Env) (k t : Nat), argEnv ρ k l t = if k ≤ t ∧ t < k + l.length then l.getD (t - k) undef else ρ t := by
      intro l
      induction l with
      | nil => intro ρ k t; simp only [argEnv, List.length_nil]; rw [if_neg (by omega)]
      | cons v l ih =>
        intro ρ k t
        simp only [argEnv, ih, List.length_cons]
        by_cases h1 : k + 1 ≤ t ∧ t < k + 1 + l.length
        · rw [if_pos h1, if_pos (by omega)]
          have : t - k = (t - (k + 1)) + 1 := by omega
          rw [this]; simp
        · rw [if_neg h1]
          by_cases h2 : t = k
          · subst h2
            rw [if_pos (by omega)]
            simp [upd]
          · rw [if_neg (by omega)]
            have : Nat.beq t k = false := by
              cases hb : Nat.beq t k with
              | false => rfl
              | true => exact absurd (Nat.eq_of_beq_eq_true hb) h2
            simp [upd, this]
    refine ⟨?_, hsz, fun t ht => ?_⟩
    · rw [key, if_neg (by omega)]; rfl
    · rw [key]
      rw [Array.getD_eq_getD_getElem?, Array.getElem?_append]
      by_cases h1 : t < args.length
      · rw [if_pos (by simpa using h1), if_pos (by omega)]
        simp
      · rw [if_neg (by simpa using h1), if_neg (by omega)]
        simp only [List.size_toArray] at *
        rw [Array.getElem?_replicate]
        split <;> simp [und]
  · rintro e a' w' ⟨_, ρ', A', ha', hs', hq⟩
    have fin : ∀ a' w', Agr n ρ' a' → sat g w' A' → retW P n fn Q .ret ρ' A' → LeavesInM Fence.wide 0 P fn a'.tmps (fun e w' => ∃ v B, e = .returned v ∧ Q v B ∧ sat g w' B) a'.defers .returning w' := by
      intro a' w' ha' hs' hq
      obtain ⟨rs, B, hm, hB, v, A2, hr, hi, hQ⟩ := hq
      rw [ha'.df, hm]
      exact leaves_mk rs w' (hB g w' hs') fun w hw => ⟨v, by have := hr g _ w ha'.plain hw; exact this, v, A2, rfl, hQ, hi g w hw⟩
    cases e with
    | normal => exact fin a' w' ha' hs' hq
    | ret => exact fin a' w' ha' hs' hq
    | _ => exact hq.elim
/-! ## Rounds -/
/-- A loop's record: its state, the jump that waits, the frame that it copies. -/
def Lp (l : Nat) (st : LoopState) (pe : Option Code) (n : Nat) (ρ : Env) (ps : Array Tmp) (assign body : Code) : SP :=
  ex fun r : Loop => fun h => (r.state = st ∧ r.pending = pe ∧ r.params = ps ∧ r.assign = assign ∧ r.body = body ∧ Vl.Agr n ρ { tmps := r.tmps, defers := [] }) ∧ pt l (.loop r) h
/-- The frame of a round: yield's arguments in the parameters. -/
def putL (n : Nat) : Env → List Tmp → List Value → Env
  | ρ, t :: ts, v :: vs => putL n (put n ρ (some t) v) ts vs
  | ρ, _, _ => ρ
/-- How a round may be left: by what its body says at its end. -/
def rndQ (l n : Nat) (ρ0 : Env) (ps : Array Tmp) (assign body : Code) (Q : Value → Option Code → SP → Prop) : Post
  | .normal, _, A => ∃ B, (∀ g w, sat g w A → sat g w (B * Lp l .busy none n ρ0 ps assign body)) ∧ Q (.bool true) none B
  | .ret, _, A => ∃ B, (∀ g w, sat g w A → sat g w (B * Lp l .busy none n ρ0 ps assign body)) ∧ Q (.bool false) (some .ret) B
  | .exit id, _, A => ∃ B, (∀ g w, sat g w A → sat g w (B * Lp l .busy none n ρ0 ps assign body)) ∧ Q (.bool false) (some (.exit id)) B
  | _, _, _ => False
def stOf : Option Code → LoopState
  | none => .ready
  | some _ => .done
/-! ## The statement -/
/-- What is asked when the function that was ranged over has returned. -/
def jmpQ (Q : Post) (ρ : Env) (A : SP) : Option Code → Prop
  | none => Q .normal ρ A
  | some .ret => Q .ret ρ A
  | some (.exit id) => Q (.exit id) ρ A
  | _ => False
/-! ## Iterators -/
/-- What an iterator promises: it calls yield with val 0, val 1, .. up to N of them, till a round says no. K: what it holds of memory itself; a round leaves alone whatever else there is. -/
def It (P : Program) (gf : FuncId) (fs cs : List Value) (K : SP) (N : Nat) (val : Nat → List Value) : Prop :=
  ∀ (l : Nat) (J : Nat → SP → Prop) (X : SP → Prop) (S0 : SP), J 0 S0 →
    (∀ F i S, i < N → J i S → Yd P l (val i).toArray (F * S) fun v B => ∃ (b : Bool) (S' : SP), v = .bool b ∧ (b = true → J (i + 1) S') ∧ (b = false → X S') ∧ B = F * S') →
    Fn P gf (fs ++ [Value.func (.yield l) #[] #[]] ++ cs).toArray (S0 * K) fun r B => r = .tuple #[] ∧ ((∃ S, J N S ∧ B = S * K) ∨ ∃ S, X S ∧ B = S * K)
section
variable (l n : Nat) (ρ0 : Env) (ps : Array Tmp) (assign body : Code) (F : SP)
def rndI (I1 : SP → Prop) (X : Code → SP → Prop) : Post
  | .normal, _, A => ∃ S, (∀ g w, sat g w A → sat g w (F * S)) ∧ I1 S
  | .ret, _, A => ∃ S, (∀ g w, sat g w A → sat g w (F * S)) ∧ X .ret S
  | .exit id, _, A => ∃ S, (∀ g w, sat g w A → sat g w (F * S)) ∧ X (.exit id) S
  | _, _, _ => False
def asgI (P : Program) (I1 : SP → Prop) (X : Code → SP → Prop) : Post
  | .normal, ρ, A => ∃ S, (∀ g w, sat g w A → sat g w (F * S)) ∧ ∀ F, @TC ⟨some l⟩ P n body (rndI F I1 X) ρ (F * S)
  | _, _, _ => False
end
end Go.Vl.Rg

set_option linter.unusedVariables false
set_option linter.unusedSimpArgs false
namespace Go.Vl
open Go Go.Proofs
theorem ct_wf2 {A R : SP} {C : SP → SP} {d : Nat} {s : DevS} (hc : Ct A (Dev d s) R C) {g : Gh} {w : World} (hs : sat g w A) : WfD s := by
  obtain ⟨rfl, _⟩ := hc; exact (dev_iff.1 hs).1
/-- Lines are flushed, one behind the other; then the fence. -/
def flF : Nat → Nat → DevS → Int × DevS
  | 0, _, s => fe s
  | k + 1, q, s => if (fl1 ((q * 64 : Nat) : Int) s).1 ≠ 0 then fl1 ((q * 64 : Nat) : Int) s else flF k (q + 1) (fl1 ((q * 64 : Nat) : Int) s).2
/-- A range is made to last. -/
def lastS (p m : Nat) (s : DevS) : Int × DevS := flF ((p + m - 1) / 64 - p / 64 + 1) (p / 64) s
attribute [local irreducible] Sl pt ro Dev imgS
namespace Rg
end Rg
end Go.Vl

set_option linter.unusedVariables false
set_option linter.unusedSimpArgs false
namespace Go.Vl
open Go Go.Proofs
def insB (n : Nat) (p m : Int) : Bool := decide (0 ≤ p ∧ 0 ≤ m ∧ p ≤ (n : Int) * 64 ∧ m ≤ (n : Int) * 64 - p)
theorem stE_off {s : DevS} (h : stE s ≠ 0) : s.off = true := by
  unfold stE at h; by_cases e : s.off = true
  · exact e
  · rw [if_neg e] at h; exact absurd rfl h
theorem stE_on {s : DevS} (h : stE s = 0) : s.off = false := by
  unfold stE at h; by_cases e : s.off = true
  · rw [if_pos e] at h; exact absurd h (by decide)
  · simpa using e
/-- What Range, Bytes, Publish answer, and the device behind them. -/
def rangeP (p m : Int) (s : DevS) : Int × DevS := if s.off = true then (5, s) else if m < 1 then (0, s) else if rdy s.ls.length false p m ≠ 0 then (6, s) else lastS p.toNat m.toNat s
def bytesP (p : Int) (b : List Nat) (s : DevS) : Int × DevS := if s.off = true then (5, s) else if b = [] then (0, s) else if (sto p b s).1 ≠ 0 then sto p b s else lastS p.toNat b.length (sto p b s).2
def pubP (p : Int) (v : Nat) (s : DevS) : Int × DevS := if (st8 p v s).1 ≠ 0 then st8 p v s else lastS p.toNat 8 (st8 p v s).2
/-- A number of n bytes that is told. -/
def loadP (p : Int) (n : Nat) (s : DevS) : Nat × Int := if rdy s.ls.length s.off p n ≠ 0 then (0, rdy s.ls.length s.off p n) else (nm (((imgS s).drop p.toNat).take n), 0)
def wordP (p : Int) (s : DevS) : Nat × Int := if s.off = true then (0, 5) else if p % 8 ≠ 0 then (0, 6) else loadP p 8 s
attribute [local irreducible] Sl pt ro Dev imgS
end Go.Vl

set_option linter.unusedVariables false
set_option linter.unusedSimpArgs false
namespace Go.Vl
open Go Go.Proofs
/-- v is no device: nil, or one that no call has made. -/
def NoD (A : SP) (v : Value) : Prop := v = .pointer none ∨ ∃ b, v = .pointer (some ⟨b, 0, none⟩) ∧ Cell A b 0 (.slice none 0 0)
theorem NoD.left {A X : SP} {v : Value} (h : NoD A v) : NoD (A * X) v := h.imp id fun ⟨b, e, hc⟩ => ⟨b, e, hc.left⟩
theorem FromNo_c {A : SP} {a : Option Addr} {m c : Nat} (hno : fitsB (m : Nat) = false := by decide) (hm : m ≤ 140737488351232 := by omega) :
    Fn Try.prog 42 #[.slice a m c] (A) (fun r B => r = .tuple #[.pointer none, .int .i64 80] ∧ A = B) := by
  refine fn_enterW (args := [.slice a m c]) Try.func42 rfl Try.ntmps42 (by simp) ?_
  refine tc_seq ?_
  refine tc_reg ?_
  refine tl_v rfl (o_assign (by conv => lhs; whnf)) ?_
  refine tl_v rfl (o_assign (by conv => lhs; whnf)) ?_
  refine tl_nil ?_
  refine q_then_n ?_
  refine tc_seq ?_
  refine tc_reg ?_
  refine tl_v rfl (o_move (by conv => lhs; whnf)) ?_
  refine tl_v rfl (o_len Try.underlying28 rfl) ?_
  refine tl_c rfl (o_call bd51 rfl (NewNo_c)) ?_
  rintro _ _ ⟨rfl, rfl⟩
  refine tl_v rfl (o_move (by conv => lhs; whnf)) ?_
  refine tl_v rfl (o_extract rfl rfl) ?_
  refine tl_v rfl (o_extract rfl rfl) ?_
  refine tl_v rfl (o_assign (by conv => lhs; whnf)) ?_
  refine tl_v rfl (o_assign (by conv => lhs; whnf)) ?_
  refine tl_nil ?_
  refine q_then_n ?_
  refine tc_seq ?_
  refine tc_seq ?_
  refine tc_reg ?_
  refine tl_v rfl (o_move (by conv => lhs; whnf)) ?_
  refine tl_v rfl (o_nei rfl rfl) ?_
  refine tl_nil ?_
  refine q_then_n ?_
  refine tc_cond rfl (fun h => ?_) (fun h => ?_)
  · try simp only [decide_eq_true_eq, decide_eq_false_iff_not, Bool.not_eq_true', Bool.not_eq_false', Option.isNone_some, Option.isNone_none, Bool.not_true, Bool.not_false] at h
    refine tc_seq ?_
    refine tc_reg ?_
    refine tl_v rfl (o_move (by conv => lhs; whnf)) ?_
    refine tl_v rfl (o_assign (by conv => lhs; whnf)) ?_
    refine tl_v rfl (o_assign (by conv => lhs; whnf)) ?_
    refine tl_nil ?_
    refine q_then_n ?_
    refine tc_ret ?_
    refine q_then_r ?_
    exact ⟨_, _, res2 rfl rfl rfl, fun _ _ h => h, rfl, rfl⟩
  · (exfalso; first | (revert h; simp; done) | (simp at h; done) | (revert h; simp; omega) | (simp at h; omega) | omega)
end Go.Vl
