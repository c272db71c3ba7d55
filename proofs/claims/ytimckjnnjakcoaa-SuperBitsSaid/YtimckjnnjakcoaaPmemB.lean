/- Walks of package pmem: a new device. Conditions: none. -/
import Derived.Test.YtimckjnnjakcoaaPmemA
set_option linter.unusedVariables false
set_option linter.unusedSimpArgs false
namespace Go.Vl
open Go Go.Proofs


def reps (zl : List Value) : Nat → List Value
  | 0 => []
  | n + 1 => zl ++ reps zl n
theorem reps_length (zl : List Value) : ∀ n, (reps zl n).length = n * zl.length
  | 0 => by simp [reps]
  | n + 1 => by rw [reps, List.length_append, reps_length zl n, Nat.add_mul]; omega
theorem reps_at (zl : List Value) (hk : 0 < zl.length) : ∀ (n j : Nat), j < n * zl.length → (reps zl n)[j]? = zl[j % zl.length]?
  | 0, j, h => by omega
  | n + 1, j, h => by
    rw [reps]
    rcases Nat.lt_or_ge j zl.length with h1 | h1
    · rw [List.getElem?_append_left h1, Nat.mod_eq_of_lt h1]
    · rw [List.getElem?_append_right h1, reps_at zl hk n (j - zl.length) (by rw [Nat.add_mul] at h; omega), Nat.mod_eq_sub_mod h1]
section
variable {P : Program} {n : Nat} {ρ : Env} {A : SP} {dst : Option Tmp} {ty : TypeId} {pos : String} {after : Array Edge} {gd : Option (Nat × Bool)}
theorem o_makeSliceK {t e : TypeId} {x y : Operand} {len cap k : Nat} {bytes : Nat} {k1 k2 : IntKind} {zl : List Value} (hu : P.underlying t = some (.slice e)) (hk : szE P e = some k) (hb : bytesE P e = some bytes) (hz : zeroE P e = some (.agg zl.toArray)) (hzl : zl.length = k) (hk0 : 0 < k)
    (hx : ev n ρ x = .int k1 len) (hy : ev n ρ y = .int k2 cap) (h1 : len ≤ cap) (h2 : cap * bytes ≤ 140737488355328) (h3 : cap ≤ 140737488355328) (h4 : 0 < cap) :
    OpX P n ρ A ⟨dst, .makeSlice t x y, ty, pos, after, gd⟩ (NewS A (reps zl cap) e len cap) := fun g w hs => by
  refine ⟨_, w.alloc (cl (reps zl cap) e), _, ?_, hs.alloc _, w.heap.size, rfl, rfl⟩
  have w1 : IntKind.i64.wrap (len : Int) = len := by rw [IntWalk.i64_in _ (by omega)]
  have w2 : IntKind.i64.wrap (cap : Int) = cap := by rw [IntWalk.i64_in _ (by omega)]
  obtain ⟨i, hi, hib⟩ := run_bytes (w := w) hb
  have p47 : (2 : Nat) ^ 47 = 140737488355328 := by decide
  have p48 : (2 : Int) ^ 48 = 281474976710656 := by decide
  simp only [execOp, hx, hy]
  rw [run_bind (w' := w.alloc (cl (reps zl cap) e)) (a := .slice (some ⟨w.heap.size, 0, none⟩) len cap)]
  · rfl
  unfold Instr.makeSlice
  rw [run_bind (run_und hu)]
  simp only []
  rw [run_bind (w' := w) (a := (len : Int)) (by rfl), run_bind (w' := w) (a := (cap : Int)) (by rfl), run_bind hi]
  simp only [w1, w2, hib, p48]
  have hcb : (bytes : Int) * (cap : Int) ≤ 140737488355328 := by
    have : (bytes : Int) * (cap : Int) = ((cap * bytes : Nat) : Int) := by rw [Nat.mul_comm]; simp
    rw [this]; omega
  rw [if_neg (by simp; omega)]
  have ask : (askRoom (((cap : Nat) : Int).toNat * bytes)).run P w = .ok () w := by
    unfold askRoom roomBytes
    rw [p47, if_neg (by simp; omega)]; rfl
  rw [run_bind ask, run_bind (run_size hk)]
  have h0 : cap * k ≠ 0 := Nat.mul_ne_zero (by omega) (by omega)
  simp only [Int.toNat_natCast, h0, if_false]
  rw [run_bind (run_zeroV hz)]
  have hrow : ((Array.range (cap * k)).map fun x => (Value.agg zl.toArray).cells[x % (Value.agg zl.toArray).cells.size]!) = (reps zl cap).toArray := by
    simp only [Value.cells]
    apply Array.ext'
    rw [Array.toList_map]
    apply List.ext_getElem?
    intro j
    simp only [Array.toList_range, List.getElem?_map, List.size_toArray]
    subst hzl
    rcases Nat.lt_or_ge j (cap * zl.length) with h | h
    · rw [reps_at zl hk0 cap j h]
      have hm : j % zl.length < zl.length := Nat.mod_lt _ hk0
      simp [h, hm]
    · rw [List.getElem?_eq_none (by simpa using h), List.getElem?_eq_none (by rw [reps_length]; exact h)]; rfl
  show (do let a ← newRow e ((Array.range (cap * k)).map fun x => (Value.agg zl.toArray).cells[x % (Value.agg zl.toArray).cells.size]!); pure (Value.slice (some a) ((len : Nat) : Int).toNat ((cap : Nat) : Int).toNat) : Sem Value).run P w = _
  rw [hrow, run_bind run_newRow]
  simp [pure, Int.toNat_natCast]
end
/-- May a device have that size? -/
def fitsB (p : Int) : Bool := decide (64 ≤ p ∧ p ≤ 4194304 ∧ p % 64 = 0)
def blank (n : Nat) : DevS := ⟨List.replicate n ⟨[], 0⟩, 0, [], 0, false⟩
def zline : LineS := ⟨[List.replicate 8 0], -1⟩
/-- A device of bytes 0. -/
def newS (n : Nat) : DevS := ⟨List.replicate n zline, 0, [], 0, false⟩
theorem zline_wf : WfL zline := ⟨by simp [zline], by simp [zline, Eight], by simp [zline], by simp [zline], by simp [zline], by simp [zline]⟩
theorem newS_wf {n : Nat} (h : 0 < n) (h2 : n ≤ 65536) : WfD (newS n) := ⟨by simpa [newS] using h, by simpa [newS] using h2, fun l hl => by
  simp only [newS, List.mem_replicate] at hl; rw [hl.2]; exact zline_wf, by simp [newS], by simp [newS], by simp [newS]⟩
theorem lcs_blank : ∀ n, lcs (List.replicate n (.slice none 0 0)) (List.replicate n ⟨[], 0⟩) = reps [.slice none 0 0, .int .i64 0] n
  | 0 => rfl
  | n + 1 => by simp only [List.replicate_succ, lcs, reps, List.cons_append, List.nil_append]; rw [lcs_blank n]
theorem linesR_blank : ∀ (n : Nat) {R : SP} {g : Gh} {w : World}, sat g w R → sat g w (R * LinesR (List.replicate n (.slice none 0 0)) (List.replicate n ⟨[], 0⟩))
  | 0, R, g, w, h => by show sat g w (R * emp); rw [star_emp]; exact h
  | n + 1, R, g, w, h => by
    simp only [List.replicate_succ, LinesR]
    rw [← star_assoc]
    exact sl_nil (k := 8) (linesR_blank n h)
theorem blank_dev {F : SP} {d bl n : Nat} {g : Gh} {w : World} (hs : sat g w (F * pt bl (cl (reps [.slice none 0 0, .int .i64 0] n) 150) * pt d (cl [.slice (some ⟨bl, 0, none⟩) n n, .int .i64 0, .slice none 0 0, .int .i64 0, .bool false] 97))) :
    sat g w (F * DevC d bl (List.replicate n (.slice none 0 0)) (.slice none 0 0) [] (blank n)) := by
  rw [devC_eq]
  unfold ArmsR
  have h1 := sl_nil (k := 2) (linesR_blank n hs)
  rw [← lcs_blank] at h1
  refine h1.perm ?_
  simp only [blank, dcs, List.length_replicate, acs, KeepsR, List.length_nil, star_emp]
  ac_rfl
theorem mp_blank (n : Nat) : mp (fun _ => zline) n (List.replicate n ⟨[], 0⟩) = (newS n).ls := by
  have := mp_map (fun _ => zline) (List.replicate n ⟨[], 0⟩)
  rw [List.length_replicate] at this
  rw [this]; simp [newS]

theorem fits_f (A : SP) (p : Int) (hp : -9223372036854775808 ≤ p ∧ p ≤ 9223372036854775807) :
    Fn Try.prog 117 #[.int .i64 p] (A) (fun r B => r = .bool (fitsB p) ∧ A = B) := by
  refine fn_enter (args := [.int .i64 p]) Try.func117 rfl Try.ntmps117 (by simp) ?_
  refine tc_seq ?_
  refine tc_reg ?_
  refine tl_v rfl (o_assign rfl) ?_
  refine tl_nil ?_
  refine q_then_n ?_
  refine tc_seq ?_
  refine tc_reg ?_
  refine tl_v rfl (o_move rfl) ?_
  refine tl_v rfl (o_geq rfl rfl) ?_
  refine tl_v rfl (o_move rfl) ?_
  refine tl_bool (d := 5) rfl (fun h => ?_) (fun h => ?_)
  · try simp only [decide_eq_true_eq, decide_eq_false_iff_not, Bool.not_eq_true', Bool.not_eq_false', Option.isNone_some, Option.isNone_none, Bool.not_true, Bool.not_false] at h
    refine tl_v rfl (o_move rfl) ?_
    refine tl_v rfl (o_leq rfl rfl) ?_
    refine tl_v rfl (by first | exact o_pick_t rfl rfl | exact o_pick_f rfl rfl | exact o_pick rfl rfl) ?_
    refine tl_v rfl (o_move rfl) ?_
    refine tl_bool (d := 9) rfl (fun h => ?_) (fun h => ?_)
    · try simp only [decide_eq_true_eq, decide_eq_false_iff_not, Bool.not_eq_true', Bool.not_eq_false', Option.isNone_some, Option.isNone_none, Bool.not_true, Bool.not_false] at h
      refine tl_v rfl (o_move rfl) ?_
      refine tl_v rfl (o_remI rfl rfl (by omega)) ?_
      refine tl_v rfl (o_eqi rfl rfl) ?_
      refine tl_v rfl (by first | exact o_pick_t rfl rfl | exact o_pick_f rfl rfl | exact o_pick rfl rfl) ?_
      refine tl_v rfl (o_assign rfl) ?_
      refine tl_nil ?_
      refine q_then_n ?_
      refine tc_ret ?_
      exact ⟨.bool (decide (p % 64 = 0)), res1 rfl rfl, by unfold fitsB; congr 1; rw [decide_eq_decide]; omega, rfl⟩
    · try simp only [decide_eq_true_eq, decide_eq_false_iff_not, Bool.not_eq_true', Bool.not_eq_false', Option.isNone_some, Option.isNone_none, Bool.not_true, Bool.not_false] at h
      refine tl_skip rfl ?_
      refine tl_skip rfl ?_
      refine tl_skip rfl ?_
      refine tl_v rfl (by first | exact o_pick_t rfl rfl | exact o_pick_f rfl rfl | exact o_pick rfl rfl) ?_
      refine tl_v rfl (o_assign rfl) ?_
      refine tl_nil ?_
      refine q_then_n ?_
      refine tc_ret ?_
      exact ⟨.bool false, res1 rfl rfl, by unfold fitsB; rw [decide_eq_false (by omega)], rfl⟩
  · try simp only [decide_eq_true_eq, decide_eq_false_iff_not, Bool.not_eq_true', Bool.not_eq_false', Option.isNone_some, Option.isNone_none, Bool.not_true, Bool.not_false] at h
    refine tl_skip rfl ?_
    refine tl_skip rfl ?_
    refine tl_v rfl (by first | exact o_pick_t rfl rfl | exact o_pick_f rfl rfl | exact o_pick rfl rfl) ?_
    refine tl_v rfl (o_move rfl) ?_
    refine tl_skip rfl ?_
    refine tl_skip rfl ?_
    refine tl_skip rfl ?_
    refine tl_v rfl (by first | exact o_pick_t rfl rfl | exact o_pick_f rfl rfl | exact o_pick rfl rfl) ?_
    refine tl_v rfl (o_assign rfl) ?_
    refine tl_nil ?_
    refine q_then_n ?_
    refine tc_ret ?_
    exact ⟨.bool false, res1 rfl rfl, by unfold fitsB; rw [decide_eq_false (by omega)], rfl⟩

theorem NewNo_f (A : SP) (p : Int) (hp : -9223372036854775808 ≤ p ∧ p ≤ 9223372036854775807) (hno : fitsB p = false) :
    Fn Try.prog 51 #[.int .i64 p] (A) (fun r B => r = .tuple #[.pointer none, .int .i64 80] ∧ A = B) := by
  refine fn_enter (args := [.int .i64 p]) Try.func51 rfl Try.ntmps51 (by simp) ?_
  refine tc_seq ?_
  refine tc_reg ?_
  refine tl_v rfl (o_assign rfl) ?_
  refine tl_v rfl (o_assign rfl) ?_
  refine tl_nil ?_
  refine q_then_n ?_
  refine tc_seq ?_
  refine tc_seq ?_
  refine tc_reg ?_
  refine tl_v rfl (o_move rfl) ?_
  refine tl_c rfl (o_call bd117 rfl (fits_f A p hp)) ?_
  rintro _ _ ⟨rfl, rfl⟩
  refine tl_v rfl (o_not rfl) ?_
  refine tl_nil ?_
  refine q_then_n ?_
  refine tc_cond rfl (fun h => ?_) (fun h => ?_)
  · try simp only [decide_eq_true_eq, decide_eq_false_iff_not, Bool.not_eq_true', Bool.not_eq_false', Option.isNone_some, Option.isNone_none, Bool.not_true, Bool.not_false] at h
    refine tc_seq ?_
    refine tc_reg ?_
    refine tl_v rfl (o_assign rfl) ?_
    refine tl_v rfl (o_assign rfl) ?_
    refine tl_nil ?_
    refine q_then_n ?_
    refine tc_ret ?_
    refine q_then_r ?_
    exact ⟨.tuple #[.pointer none, .int .i64 80], res2 rfl rfl rfl, rfl, rfl⟩
  · exfalso; simp [hno] at h

theorem New_f (F : SP) (n : Nat) (hn : 0 < n) (hn2 : n ≤ 65536) :
    Fn Try.prog 51 #[.int .i64 ((n * 64 : Nat) : Int)] (F) (fun r B => ∃ d, r = .tuple #[.pointer (some ⟨d, 0, none⟩), .int .i64 0] ∧ B = F * Dev d (newS n)) := by
  refine fn_enterW (args := [.int .i64 ((n * 64 : Nat) : Int)]) Try.func51 rfl Try.ntmps51 (by simp) ?_
  have hfit : fitsB ((n * 64 : Nat) : Int) = true := by unfold fitsB; simp; omega
  refine tc_seq ?_
  refine tc_reg ?_
  refine tl_v rfl (o_assign rfl) ?_
  refine tl_v rfl (o_assign rfl) ?_
  refine tl_nil ?_
  refine q_then_n ?_
  refine tc_seq ?_
  refine tc_seq ?_
  refine tc_reg ?_
  refine tl_v rfl (o_move rfl) ?_
  refine tl_c rfl (o_call bd117 rfl (fits_f F _ (by omega))) ?_
  rintro _ _ ⟨rfl, rfl⟩
  refine tl_v rfl (o_not rfl) ?_
  refine tl_nil ?_
  refine q_then_n ?_
  refine tc_cond rfl (fun h => ?_) (fun h => ?_)
  · exfalso; rw [hfit] at h; exact absurd h (by decide)
  · try simp only [decide_eq_true_eq, decide_eq_false_iff_not, Bool.not_eq_true', Bool.not_eq_false', Option.isNone_some, Option.isNone_none, Bool.not_true, Bool.not_false] at h
    refine tc_skip ?_
    refine q_then_n ?_
    refine tc_seq ?_
    refine tc_reg ?_
    refine tl_v rfl (o_move rfl) ?_
    refine tl_v rfl (o_quoN (a := n * 64) (b := 64) rfl rfl (by omega)) ?_
    refine tl_env (d := 10) (v := .int .i64 (n : Nat)) (by show Value.int .i64 ((n * 64 / 64 : Nat) : Int) = _; rw [Nat.mul_div_cancel _ (by decide)]) ?_
    refine tl_x rfl (o_makeSliceK (len := n) (cap := n) Try.underlying95 sz150 by150 z150 rfl (by decide) rfl rfl (by omega) (by omega) (by omega) hn) ?_
    rintro _ _ ⟨b11, rfl, rfl⟩
    refine tl_v rfl (o_buildS Try.underlying97 z97 (pl97 Try.underlying97) rfl rfl) ?_
    refine tl_x rfl (o_box rfl rfl) ?_
    rintro _ _ ⟨b13, rfl, rfl⟩
    refine tl_pre (fun _ _ h => blank_dev h) ?_
    refine tl_v rfl (o_assign rfl) ?_
    refine tl_nil ?_
    refine q_then_n ?_
    refine tc_seq ?_
    refine tc_seq ?_
    refine tc_reg ?_
    refine tl_v rfl (o_move rfl) ?_
    refine tl_v rfl (o_nilCheck rfl) ?_
    refine tl_v rfl (o_fieldAddr (o := 0) Try.underlying97 rfl rfl sz95 rfl) ?_
    refine tl_v rfl (o_load p95 rfl devC_d rfl) ?_
    refine tl_v rfl (o_len Try.underlying95 rfl) ?_
    refine tl_v rfl (o_move rfl) ?_
    refine tl_nil ?_
    refine q_then_n ?_
    refine tc_block ?_
    refine tc_loop (fun k ρ B => ∃ (i : Nat) (svs' : List Value), i ≤ n ∧ k = n - i ∧ svs'.length = n ∧ ρ 4 = .pointer (some ⟨b13, 0, none⟩) ∧ ρ 18 = .int .i64 n ∧ ρ 19 = .int .i64 i ∧ B = F * DevC b13 b11 svs' (.slice none 0 0) [] { blank n with ls := mp (fun _ => zline) i (blank n).ls }) (m := n) ?_ ?_
    · exact ⟨0, List.replicate n (.slice none 0 0), by omega, rfl, by simp, rfl, by show Value.int .i64 ((List.replicate n (⟨[], 0⟩ : LineS)).length : Int) = _; rw [List.length_replicate], rfl, by rw [mp_zero]⟩
    · intro k ρ B hI
      obtain ⟨i, svs', hi, rfl, hsv', h4, h18, h19, rfl⟩ := hI
      refine tc_env (d := 4) h4 ?_
      refine tc_env (d := 18) h18 ?_
      refine tc_env (d := 19) h19 ?_
      refine tc_seq ?_
      refine tc_reg ?_
      refine tl_v rfl (o_lss rfl rfl) ?_
      refine tl_nil ?_
      refine q_then_n ?_
      refine tc_seq ?_
      refine tc_cond rfl (fun h => ?_) (fun h => ?_)
      · simp only [decide_eq_true_eq] at h
        have hi' : i < (blank n).ls.length := by simp [blank]; omega
        have hbl : (blank n).ls.length = n := by simp [blank]
        have hglen : (mp (fun _ => zline) i (blank n).ls).length = n := by rw [mp_length, hbl]
        have hiG : i < (mp (fun _ => zline) i (blank n).ls).length := by omega
        have hsG : svs'.length = (mp (fun _ => zline) i (blank n).ls).length := by omega
        obtain ⟨R, hf1, hf2⟩ := devC_focus (d := b13) (bl := b11) (kvs := []) (av := .slice none 0 0) (s := { blank n with ls := mp (fun _ => zline) i (blank n).ls }) hsG hiG
        refine tc_eq (hf1 F) ?_
        simp only [hglen]
        refine tc_skip ?_
        refine q_then_n ?_
        refine tc_seq ?_
        refine tc_block ?_
        refine tc_seq ?_
        refine tc_reg ?_
        refine tl_v rfl (o_move rfl) ?_
        refine tl_v rfl (o_assign rfl) ?_
        refine tl_nil ?_
        refine q_then_n ?_
        refine tc_reg ?_
        refine tl_v rfl (o_move rfl) ?_
        refine tl_v rfl (o_nilCheck rfl) ?_
        refine tl_v rfl (o_fieldAddr (o := 0) Try.underlying97 rfl rfl sz95 rfl) ?_
        refine tl_v rfl (o_load p95 rfl (by repeat (first | exact has_here | exact has_pt | apply has_left)) rfl) ?_
        refine tl_v rfl (o_move rfl) ?_
        refine tl_v rfl (o_buildA (vs := []) Try.underlying147 sz53 z147 rfl rfl rfl (Nat.zero_le _) rfl) ?_
        refine tl_x rfl (o_buildSliceK (l := wds (List.replicate 8 0)) Try.underlying148 sz147 z147 rfl rfl (by decide)) ?_
        rintro _ _ ⟨b28, rfl, rfl⟩
        refine tl_v rfl (o_buildS (l := [.slice (some ⟨b28, 0, none⟩) 1 1, .int .i64 (-1)]) Try.underlying150 z150 (pl150 Try.underlying150) rfl rfl) ?_
        refine tl_v rfl (o_indexAddrN (j := i) Try.underlying95 sz150 rfl rfl (by omega)) ?_
        refine tl_u rfl (o_storeN (l := lcs svs' (mp (fun _ => zline) i (blank n).ls)) (l' := lcs (svs'.set i (.slice (some ⟨b28, 0, none⟩) 1 1)) ((mp (fun _ => zline) i (blank n).ls).set i zline)) sz150 rfl rfl rfl rfl (by rw [lcs_length hsG, hglen]; omega) (by rw [Nat.zero_add]; exact lcs_set (l := zline) hsG hiG) (by repeat (first | exact upd_here | exact upd_pt | apply upd_left))) ?_
        refine tl_pre (fun _ _ h => h.newline (by rfl)) ?_
        have hfin := hf2 F (.slice (some ⟨b28, 0, none⟩) 1 1) zline
        simp only [hglen] at hfin
        refine tl_eq hfin ?_
        simp only [mp_set (fun _ => zline) hi']
        refine tl_nil ?_
        refine q_block_n (q_then_n ?_)
        refine tc_reg ?_
        refine tl_v rfl (by first | exact o_addI rfl rfl (by omega) | exact o_add rfl rfl) ?_
        refine tl_v rfl (o_move rfl) ?_
        refine tl_nil ?_
        refine q_then_n ?_
        exact ⟨_, by omega, i + 1, _, by omega, rfl, by rw [List.length_set]; exact hsv', rfl, rfl, rfl, rfl⟩
      · try simp only [decide_eq_true_eq, decide_eq_false_iff_not, Bool.not_eq_true', Bool.not_eq_false', Option.isNone_some, Option.isNone_none, Bool.not_true, Bool.not_false] at h
        refine tc_exit ?_
        refine q_then_e (q_then_e (q_block_x (q_then_n ?_)))
        refine tc_seq ?_
        refine tc_reg ?_
        refine tl_v rfl (o_move rfl) ?_
        refine tl_v rfl (o_assign rfl) ?_
        refine tl_v rfl (o_assign rfl) ?_
        refine tl_nil ?_
        refine q_then_n ?_
        refine tc_ret ?_
        obtain rfl : i = n := by omega
        exact ⟨.tuple #[.pointer (some ⟨b13, 0, none⟩), .int .i64 0], _, res2 rfl rfl rfl, fun g w h => dev_back (s := newS i) (newS_wf hn hn2) (by simp [newS]; exact hsv') rfl g w (h.perm (by show F * DevC b13 b11 svs' _ [] { blank i with ls := mp (fun _ => zline) i (List.replicate i ⟨[], 0⟩) } = _; rw [mp_blank]; rfl)), _, rfl, rfl⟩

end Go.Vl
