/- Walks of package pmem: a line is flushed; the fence; the power. Conditions: none. -/
import Derived.Test.YtimckjnnjakcoaaPmem6
set_option linter.unusedVariables false
set_option linter.unusedSimpArgs false
namespace Go.Vl
open Go Go.Proofs


theorem cut_lt {b o c l k : Nat} (h : l < c) : cutAddr (some ⟨b, o, none⟩) c l k = some ⟨b, o + l * k, none⟩ := by
  unfold cutAddr; rw [if_neg (by omega)]; simp [addr_add]
def flushL (l : LineS) : LineS := { l with mark := (l.st.length : Int) - 1 }
def flushS (p : Nat) (s : DevS) : DevS := onLine flushL (p / 64) s
theorem flushL_wf {l : LineS} (h : WfL l) : WfL (flushL l) := by
  have := List.length_pos_iff.2 h.ne
  exact ⟨h.ne, h.eight, by simp only [flushL]; omega, by simp only [flushL]; omega, h.small, h.words⟩
theorem flushS_wf {p : Nat} {s : DevS} (hw : WfD s) : WfD (flushS p s) := onLine_wf hw fun l hl => flushL_wf (hw.line l hl)
/-- What Flush answers, and the device behind it. -/
def fl1 (p : Int) (s : DevS) : Int × DevS :=
  if rdy s.ls.length s.off p 1 ≠ 0 then (rdy s.ls.length s.off p 1, s) else (doneE (flushS p.toNat s), doneS (flushS p.toNat s))
/-- The first lines are changed. -/
def mp (f : LineS → LineS) (i : Nat) (ls : List LineS) : List LineS := ls.mapIdx fun j l => if j < i then f l else l
theorem mp_length (f i ls) : (mp f i ls).length = ls.length := by simp [mp]
theorem mp_zero (f) (ls : List LineS) : mp f 0 ls = ls := by
  apply List.ext_getElem?
  intro j; simp [mp, List.getElem?_mapIdx]
theorem mp_at (f) {i : Nat} {ls : List LineS} (hi : i < ls.length) : (mp f i ls)[i]'(by rw [mp_length]; exact hi) = ls[i] := by simp [mp]
theorem mp_set (f) {i : Nat} {ls : List LineS} (hi : i < ls.length) : (mp f i ls).set i (f ls[i]) = mp f (i + 1) ls := by
  apply List.ext_getElem?
  intro j
  by_cases hj : j = i
  · subst hj
    rw [List.getElem?_set_self (by rw [mp_length]; exact hi)]
    simp [mp, List.getElem?_mapIdx, hi]
  · rw [List.getElem?_set_ne (Ne.symm hj)]
    simp only [mp, List.getElem?_mapIdx]
    by_cases hlt : j < i
    · simp [hlt, show j < i + 1 by omega]
    · simp [hlt, show ¬ j < i + 1 by omega]
theorem mp_same (f) {i : Nat} {ls : List LineS} (hi : i < ls.length) (he : f ls[i] = ls[i]) : mp f (i + 1) ls = mp f i ls := by
  rw [← mp_set f hi, he]
  have := set_getElem (l := mp f i ls) (i := i) (by rw [mp_length]; exact hi)
  rwa [mp_at f hi] at this
theorem mp_map (f) (ls : List LineS) : mp f ls.length ls = ls.map f := by
  apply List.ext_getElem?
  intro j
  simp only [mp, List.getElem?_mapIdx, List.getElem?_map]
  rcases Nat.lt_or_ge j ls.length with h | h
  · simp [h]
  · simp [h]
def fenceL (l : LineS) : LineS := if 0 ≤ l.mark then ⟨l.st.drop l.mark.toNat, -1⟩ else l
def fenceS (s : DevS) : DevS := { s with ls := s.ls.map fenceL }
theorem fenceL_wf {l : LineS} (h : WfL l) : WfL (fenceL l) := by
  unfold fenceL
  split
  · have := h.hi
    refine ⟨by simp only [ne_eq, List.drop_eq_nil_iff]; omega, fun x hx => h.eight x (List.mem_of_mem_drop hx), by simp, by simp only []; omega, ?_, fun x hx => h.words x (List.mem_of_mem_drop hx)⟩
    have := h.small
    simp only [List.length_drop]; omega
  · exact h
theorem fenceS_wf {s : DevS} (hw : WfD s) : WfD (fenceS s) := ⟨by simp [fenceS]; exact hw.pos, by simp [fenceS]; exact hw.top, fun l hl => by
  simp only [fenceS, List.mem_map] at hl
  obtain ⟨m, hm, rfl⟩ := hl
  exact fenceL_wf (hw.line m hm), hw.arms, hw.after, hw.keeps⟩
/-- What Fence answers, and the device behind it. -/
def fe (s : DevS) : Int × DevS := if s.off then (5, s) else (doneE (fenceS s), doneS (fenceS s))
theorem rdy00 {n : Nat} {off : Bool} : rdy n off 0 0 = if off then 5 else 0 := by
  unfold rdy
  split
  · rfl
  · rw [if_neg (by omega)]

theorem Flush_f (F : SP) (d : Nat) (p : Int) (s : DevS) (hp : -9223372036854775808 ≤ p ∧ p ≤ 9223372036854775807) :
    Fn Try.prog 87 #[.pointer (some ⟨d, 0, none⟩), .int .i64 p] (F * Dev d s) (fun r B => r = .int .i64 (fl1 p s).1 ∧ B = F * Dev d (fl1 p s).2) := by
  refine fn_enterW (args := [.pointer (some ⟨d, 0, none⟩), .int .i64 p]) Try.func87 rfl Try.ntmps87 (by simp) ?_
  refine tc_dev fun hw bl svs av kvs hsv hkv => ?_
  have hpos := hw.pos
  have htop := hw.top
  refine tc_seq ?_
  refine tc_reg ?_
  refine tl_v rfl (o_assign rfl) ?_
  refine tl_nil ?_
  refine q_then_n ?_
  refine tc_seq ?_
  refine tc_seq ?_
  refine tc_reg ?_
  refine tl_v rfl (o_move rfl) ?_
  refine tl_v rfl (o_move rfl) ?_
  refine tl_c rfl (o_call bd88 rfl (ready_f _ d bl s.ls.length s av dev_cells hpos htop p 1 hp (by omega))) ?_
  rintro _ _ ⟨rfl, rfl⟩
  refine tl_v rfl (o_assign rfl) ?_
  refine tl_nil ?_
  refine q_then_n ?_
  refine tc_seq ?_
  refine tc_reg ?_
  refine tl_v rfl (o_move rfl) ?_
  refine tl_v rfl (o_nei rfl rfl) ?_
  refine tl_nil ?_
  refine q_then_n ?_
  refine tc_cond rfl (fun h => ?_) (fun h => ?_)
  · try simp only [decide_eq_true_eq, decide_eq_false_iff_not, Bool.not_eq_true', Bool.not_eq_false', Option.isNone_some, Option.isNone_none, Bool.not_true, Bool.not_false] at h
    refine tc_seq ?_
    refine tc_reg ?_
    refine tl_v rfl (o_move rfl) ?_
    refine tl_v rfl (o_assign rfl) ?_
    refine tl_nil ?_
    refine q_then_n ?_
    refine tc_ret ?_
    refine q_then_r ?_
    exact ⟨.int .i64 (rdy s.ls.length s.off p 1), _, res1 rfl rfl, dev_back hw hsv hkv, by unfold fl1; rw [if_pos h], by unfold fl1; rw [if_pos h]⟩
  · simp only [bne_iff_ne, ne_eq, decide_eq_false_iff_not, Bool.not_eq_false', Bool.not_eq_true', decide_eq_true_eq] at h
    have hr0 := rdy0 (show rdy s.ls.length s.off p 1 = 0 by omega)
    obtain ⟨q, rfl⟩ := Int.eq_ofNat_of_zero_le hr0.2.1
    have hat : q / 64 < s.ls.length := by omega
    obtain ⟨R, hf1, hf2⟩ := devC_focus (d := d) (bl := bl) (kvs := kvs) (av := av) (s := s) hsv hat
    refine tc_eq (hf1 F) ?_
    refine tc_have (fun _ _ h => sl_have' rfl h) fun ⟨a', c', hvv, hn', hl', hrd⟩ => ?_
    have hwl : WfL s.ls[q / 64] := hw.line _ (List.getElem_mem _)
    have hlen : 0 < s.ls[q / 64].st.length := List.length_pos_iff.2 hwl.ne
    have hsm := hwl.small
    have hcell : (lcs svs s.ls)[0 + q / 64 * 2 + 0]? = some (.slice a' s.ls[q / 64].st.length c') := by rw [Nat.zero_add, Nat.add_zero, lcs_sv hsv (by omega), hvv]
    refine tc_skip ?_
    refine q_then_n ?_
    refine tc_seq ?_
    refine tc_reg ?_
    refine tl_v rfl (o_move rfl) ?_
    refine tl_v rfl (o_nilCheck rfl) ?_
    refine tl_v rfl (o_fieldAddr (o := 0) Try.underlying97 rfl rfl sz95 rfl) ?_
    refine tl_v rfl (o_load p95 rfl (by repeat (first | exact has_here | exact has_pt | apply has_left)) rfl) ?_
    refine tl_v rfl (o_move rfl) ?_
    refine tl_v rfl (o_quoN (a := q) (b := 64) rfl rfl (by omega)) ?_
    refine tl_v rfl (o_indexAddrN Try.underlying95 sz150 rfl rfl (by omega)) ?_
    refine tl_v rfl (o_assign rfl) ?_
    refine tl_nil ?_
    refine q_then_n ?_
    refine tc_seq ?_
    refine tc_reg ?_
    refine tl_v rfl (o_move rfl) ?_
    refine tl_v rfl (o_move rfl) ?_
    refine tl_v rfl (o_nilCheck rfl) ?_
    refine tl_v rfl (o_fieldAddr (o := 0) Try.underlying150 rfl rfl sz148 rfl) ?_
    refine tl_v rfl (o_load p148 rfl (by repeat (first | exact has_here | exact has_pt | apply has_left)) hcell) ?_
    refine tl_v rfl (o_len Try.underlying148 rfl) ?_
    refine tl_v rfl (by first | exact o_subI rfl rfl (by omega) | exact o_sub rfl rfl) ?_
    refine tl_v rfl (o_nilCheck rfl) ?_
    refine tl_v rfl (o_fieldAddr (o := 1) Try.underlying150 rfl rfl sz3 rfl) ?_
    refine tl_u rfl (o_store (l := lcs svs s.ls) (l' := lcs svs (s.ls.set (q / 64) (flushL s.ls[q / 64]))) sz3 rfl rfl rfl (by rw [lcs_length hsv]; omega) (by rw [Nat.zero_add]; exact lcs_set_mark (flushL s.ls[q / 64]) hsv hat) (by repeat (first | exact upd_here | exact upd_pt | apply upd_left))) ?_
    refine tl_nil ?_
    refine q_then_n ?_
    refine tc_seq ?_
    refine tc_reg ?_
    refine tl_v rfl (o_move rfl) ?_
    have hfin := hf2 F svs[q / 64] (flushL s.ls[q / 64])
    rw [set_getElem (by omega), ← onLine_at (f := flushL) hat] at hfin
    refine tl_eq hfin ?_
    refine tl_pre (dev_back (s := flushS q s) (flushS_wf hw) (by unfold flushS; rw [onLine_at hat]; simp [hsv]) (by unfold flushS; rw [onLine_at hat]; exact hkv)) ?_
    refine tl_c rfl (o_call bd101 rfl (done_f F d (flushS q s))) ?_
    rintro _ _ ⟨rfl, rfl⟩
    refine tl_v rfl (o_assign rfl) ?_
    refine tl_nil ?_
    refine q_then_n ?_
    refine tc_ret ?_
    exact ⟨.int .i64 (doneE (flushS q s)), _, res1 rfl rfl, fun _ _ h => h, by unfold fl1; rw [if_neg (by omega)]; rfl, by unfold fl1; rw [if_neg (by omega)]; rfl⟩

theorem Crash_f (F : SP) (d c : Nat) (s : DevS) (a : Option Addr) (keep : List Int) (hr : Rd F a (ints keep)) (hk : ∀ k ∈ keep, k ≤ 9223372036854775807) (hkl : keep.length ≤ 17592186044416) :
    Fn Try.prog 28 #[.pointer (some ⟨d, 0, none⟩), .slice a keep.length c] (F * Dev d s) (fun r B => r = .int .i64 (if s.off then 5 else if lowB keep then 2 else 0) ∧ B = F * Dev d (if s.off then s else if lowB keep then s else goesS keep s)) := by
  refine fn_enterW (args := [.pointer (some ⟨d, 0, none⟩), .slice a keep.length c]) Try.func28 rfl Try.ntmps28 (by simp) ?_
  refine tc_dev fun hw bl svs av kvs hsv hkv => ?_
  have hpos := hw.pos
  have htop := hw.top
  refine tc_seq ?_
  refine tc_reg ?_
  refine tl_v rfl (o_assign rfl) ?_
  refine tl_nil ?_
  refine q_then_n ?_
  refine tc_seq ?_
  refine tc_seq ?_
  refine tc_reg ?_
  refine tl_v rfl (o_move rfl) ?_
  refine tl_c rfl (o_call bd88 rfl (ready_f _ d bl s.ls.length s av dev_cells hpos htop 0 0 (by omega) (by omega))) ?_
  rintro _ _ ⟨rfl, rfl⟩
  refine tl_v rfl (o_assign rfl) ?_
  refine tl_nil ?_
  refine q_then_n ?_
  refine tc_seq ?_
  refine tc_reg ?_
  refine tl_v rfl (o_move rfl) ?_
  refine tl_v rfl (o_nei rfl rfl) ?_
  refine tl_nil ?_
  refine q_then_n ?_
  refine tc_cond rfl (fun h => ?_) (fun h => ?_)
  · rw [rdy00] at h
    have ho : s.off = true := by
      cases ho : s.off with
      | true => rfl
      | false => rw [ho] at h; simp at h
    refine tc_seq ?_
    refine tc_reg ?_
    refine tl_v rfl (o_move rfl) ?_
    refine tl_v rfl (o_assign rfl) ?_
    refine tl_nil ?_
    refine q_then_n ?_
    refine tc_ret ?_
    refine q_then_r ?_
    exact ⟨.int .i64 5, _, res1 rfl (by show Value.int .i64 (rdy _ _ _ _) = _; rw [rdy00, ho]; rfl), dev_back hw hsv hkv, by rw [ho]; rfl, by rw [ho]; rfl⟩
  · rw [rdy00] at h
    have ho : s.off = false := by
      cases ho : s.off with
      | false => rfl
      | true => rw [ho] at h; simp at h
    refine tc_skip ?_
    refine q_then_n ?_
    refine tc_seq ?_
    refine tc_seq ?_
    refine tc_reg ?_
    refine tl_v rfl (o_move rfl) ?_
    refine tl_c rfl (o_call bd91 rfl (low_f _ a c keep hr.left (by omega))) ?_
    rintro _ _ ⟨rfl, rfl⟩
    refine tl_nil ?_
    refine q_then_n ?_
    refine tc_cond rfl (fun h => ?_) (fun h => ?_)
    · try simp only [decide_eq_true_eq, decide_eq_false_iff_not, Bool.not_eq_true', Bool.not_eq_false', Option.isNone_some, Option.isNone_none, Bool.not_true, Bool.not_false] at h
      refine tc_seq ?_
      refine tc_reg ?_
      refine tl_v rfl (o_assign rfl) ?_
      refine tl_nil ?_
      refine q_then_n ?_
      refine tc_ret ?_
      refine q_then_r ?_
      exact ⟨.int .i64 2, _, res1 rfl rfl, dev_back hw hsv hkv, by rw [ho, h]; rfl, by rw [ho, h]; rfl⟩
    · try simp only [decide_eq_true_eq, decide_eq_false_iff_not, Bool.not_eq_true', Bool.not_eq_false', Option.isNone_some, Option.isNone_none, Bool.not_true, Bool.not_false] at h
      refine tc_skip ?_
      refine q_then_n ?_
      refine tc_seq ?_
      refine tc_reg ?_
      refine tl_v rfl (o_move rfl) ?_
      refine tl_v rfl (o_move rfl) ?_
      refine tl_pre (dev_back hw hsv hkv) ?_
      have hk2 : ∀ k ∈ keep, 0 ≤ k ∧ k ≤ 9223372036854775807 := fun k hm => ⟨by
        rcases Int.lt_or_le k 0 with h1 | h1
        · exfalso; unfold lowB at h; rw [List.any_eq_false] at h; exact h k hm (by simpa using h1)
        · exact h1, hk k hm⟩
      refine tl_c rfl (o_call bd92 rfl (goes_f F d c s a keep hr hk2 hkl)) ?_
      rintro _ _ ⟨rfl, rfl⟩
      refine tl_nil ?_
      refine q_then_n ?_
      refine tc_seq ?_
      refine tc_reg ?_
      refine tl_v rfl (o_assign rfl) ?_
      refine tl_nil ?_
      refine q_then_n ?_
      refine tc_ret ?_
      exact ⟨.int .i64 0, _, res1 rfl rfl, fun _ _ h => h, by rw [ho, h]; rfl, by rw [ho, h]; rfl⟩

theorem Wake_f (F : SP) (d : Nat) (s : DevS) :
    Fn Try.prog 32 #[.pointer (some ⟨d, 0, none⟩)] (F * Dev d s) (fun r B => r = .int .i64 (if s.off then 0 else 3) ∧ B = F * Dev d { s with off := false }) := by
  refine fn_enterW (args := [.pointer (some ⟨d, 0, none⟩)]) Try.func32 rfl Try.ntmps32 (by simp) ?_
  refine tc_dev fun hw bl svs av kvs hsv hkv => ?_
  have hpos := hw.pos
  have htop := hw.top
  refine tc_seq ?_
  refine tc_reg ?_
  refine tl_v rfl (o_assign rfl) ?_
  refine tl_nil ?_
  refine q_then_n ?_
  refine tc_seq ?_
  refine tc_block ?_
  refine tc_seq ?_
  refine tc_reg ?_
  refine tl_v rfl (o_move rfl) ?_
  refine tl_c rfl (o_call bd93 rfl (none_f _ d bl s.ls.length s av dev_cells hpos htop)) ?_
  rintro _ _ ⟨rfl, rfl⟩
  refine tl_v rfl (o_assign rfl) ?_
  refine tl_nil ?_
  refine q_then_n ?_
  refine tc_cond rfl (fun h => ?_) (fun h => ?_)
  · (exfalso; first | (revert h; simp; done) | (revert h; simp; omega) | (simp at h; omega) | omega)
  · try simp only [decide_eq_true_eq, decide_eq_false_iff_not, Bool.not_eq_true', Bool.not_eq_false', Option.isNone_some, Option.isNone_none, Bool.not_true, Bool.not_false] at h
    refine tc_seq ?_
    refine tc_reg ?_
    refine tl_v rfl (o_move rfl) ?_
    refine tl_v rfl (o_nilCheck rfl) ?_
    refine tl_v rfl (o_fieldAddr (o := 4) Try.underlying97 rfl rfl sz4 rfl) ?_
    refine tl_v rfl (o_load p4 rfl devC_d rfl) ?_
    refine tl_v rfl (o_not rfl) ?_
    refine tl_v rfl (o_assign rfl) ?_
    refine tl_nil ?_
    refine q_then_n ?_
    refine tc_cond rfl (fun h => ?_) (fun h => ?_)
    · try simp only [decide_eq_true_eq, decide_eq_false_iff_not, Bool.not_eq_true', Bool.not_eq_false', Option.isNone_some, Option.isNone_none, Bool.not_true, Bool.not_false] at h
      refine tc_seq ?_
      refine tc_reg ?_
      refine tl_v rfl (o_assign rfl) ?_
      refine tl_nil ?_
      refine q_then_n ?_
      refine tc_ret ?_
      refine q_block_r (q_then_r ?_)
      have ho : s.off = false := by simpa using h
      exact ⟨.int .i64 3, _, res1 rfl rfl, dev_back hw hsv hkv, by rw [ho]; rfl, by rw [show ({ s with off := false } : DevS) = s by rw [← ho]]⟩
    · try simp only [decide_eq_true_eq, decide_eq_false_iff_not, Bool.not_eq_true', Bool.not_eq_false', Option.isNone_some, Option.isNone_none, Bool.not_true, Bool.not_false] at h
      refine tc_skip ?_
      refine q_block_n (q_then_n ?_)
      refine tc_seq ?_
      refine tc_reg ?_
      refine tl_v rfl (o_move rfl) ?_
      refine tl_v rfl (o_nilCheck rfl) ?_
      refine tl_v rfl (o_fieldAddr (o := 4) Try.underlying97 rfl rfl sz4 rfl) ?_
      refine tl_u rfl (o_store sz4 rfl rfl rfl (by show 4 < 5; decide) rfl (devC_upd s.ops s.cnt false)) ?_
      refine tl_nil ?_
      refine q_then_n ?_
      refine tc_seq ?_
      refine tc_reg ?_
      refine tl_v rfl (o_assign rfl) ?_
      refine tl_nil ?_
      refine q_then_n ?_
      refine tc_ret ?_
      have ho : s.off = true := by simpa using h
      exact ⟨.int .i64 0, _, res1 rfl rfl, dev_back (s := { s with off := false }) ⟨hw.pos, hw.top, hw.line, hw.arms, hw.after, hw.keeps⟩ hsv hkv, by rw [ho]; rfl, rfl⟩

end Go.Vl
