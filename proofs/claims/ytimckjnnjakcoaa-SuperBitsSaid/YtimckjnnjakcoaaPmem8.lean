/- Walks of package pmem: what tells of a device. Conditions: none. -/
import Derived.Test.YtimckjnnjakcoaaPmem7
set_option linter.unusedVariables false
set_option linter.unusedSimpArgs false
namespace Go.Vl
open Go Go.Proofs


/-- What is to be read of a device. -/
structure DevR (A : SP) (d bl : Nat) (svs : List Value) (av : Value) (s : DevS) : Prop where
  d : Cells A d 0 (dcs bl s.ls.length s av)
  b : Cells A bl 0 (lcs svs s.ls)
  len : svs.length = s.ls.length
  st : ∀ i (h : i < s.ls.length), ∃ a c, svs[i]? = some (.slice a s.ls[i].st.length c) ∧ s.ls[i].st.length ≤ c ∧ Rd A a (stc s.ls[i].st)
  wf : WfD s
theorem DevR.left {A X : SP} {d bl : Nat} {svs : List Value} {av : Value} {s : DevS} (h : DevR A d bl svs av s) : DevR (A * X) d bl svs av s :=
  ⟨h.d.left, h.b.left, h.len, fun i hi => by obtain ⟨a, c, h1, h2, h3⟩ := h.st i hi; exact ⟨a, c, h1, h2, h3.left⟩, h.wf⟩
theorem devR_of {F : SP} {d bl : Nat} {svs kvs : List Value} {av : Value} {s : DevS} (hw : WfD s) (hsv : svs.length = s.ls.length) {g : Gh} {w : World} (hs : sat g w (F * DevC d bl svs av kvs s)) : DevR (F * DevC d bl svs av kvs s) d bl svs av s :=
  ⟨dev_cells, cells_all devC_bl (lcs_length hsv), hsv, fun i hi => by
    obtain ⟨R, hf1, _⟩ := devC_focus (d := d) (bl := bl) (kvs := kvs) (av := av) (s := s) hsv hi
    obtain ⟨a, c, h1, h2, _, h3⟩ := sl_have' (hf1 F) hs
    exact ⟨a, c, by rw [List.getElem?_eq_getElem (by omega), h1], h2, h3⟩, hw⟩
/-- A call that only reads the device and makes something. -/
theorem fn_devR {P : Program} {f : FuncId} {args : Array Value} {F : SP} {d : Nat} {s : DevS} {Q : Value → SP → Prop}
    (h : WfD s → ∀ A bl svs av, DevR A d bl svs av s → Fn P f args A fun r B => ∃ X, B = A * X ∧ Q r X) :
    Fn P f args (F * Dev d s) fun r B => ∃ X, B = F * Dev d s * X ∧ Q r X := fun g w hs => by
  obtain ⟨hw, bl, svs, av, kvs, h1, h2, hs'⟩ := dev_iff.1 hs
  refine (h hw _ bl svs av (devR_of hw h1 hs') g w hs').mono ?_
  rintro e w' ⟨v, B, e1, ⟨X, rfl, hq⟩, hB⟩
  refine ⟨v, F * Dev d s * X, e1, ⟨X, rfl, hq⟩, ?_⟩
  rw [star_swap] at hB ⊢
  exact dev_back hw h1 h2 _ _ hB
theorem fn_devR0 {P : Program} {f : FuncId} {args : Array Value} {F : SP} {d : Nat} {s : DevS} {q : Value → Prop}
    (h : WfD s → ∀ A bl svs av, DevR A d bl svs av s → Fn P f args A fun r B => q r ∧ A = B) :
    Fn P f args (F * Dev d s) fun r B => q r ∧ F * Dev d s = B := fun g w hs => by
  obtain ⟨hw, bl, svs, av, kvs, h1, h2, hs'⟩ := dev_iff.1 hs
  refine (h hw _ bl svs av (devR_of hw h1 hs') g w hs').mono ?_
  rintro e w' ⟨v, B, e1, ⟨hq, rfl⟩, hB⟩
  exact ⟨v, F * Dev d s, e1, ⟨hq, rfl⟩, dev_back hw h1 h2 _ _ hB⟩
theorem seenR_f {A : SP} {d bl : Nat} {svs : List Value} {av : Value} {s : DevS} (h : DevR A d bl svs av s) {i : Nat} (hi : i < s.ls.length) :
    Fn Try.prog 89 #[.pointer (some ⟨bl, 0 + i * 2, none⟩)] A (fun r B => r = .agg (wds (seenL s.ls[i])).toArray ∧ A = B) := by
  obtain ⟨a, c, h1, h2, h3⟩ := h.st i hi
  have hwl := h.wf.line _ (List.getElem_mem hi)
  have hp := List.length_pos_iff.2 hwl.ne
  have hb := h.b (i * 2) (.slice a s.ls[i].st.length c) (by
    have := lcs_sv (vs := svs) (ls := s.ls) (i := i) h.len (by have := h.len; omega)
    rw [this]; rw [List.getElem?_eq_getElem (by have := h.len; omega)] at h1; exact h1)
  refine (seen_f A bl (0 + i * 2) c a s.ls[i].st hb h3 hwl.eight hp hwl.small).mono fun v B ⟨e, e'⟩ => ⟨?_, e'⟩
  rw [e, seenL_eq hp]

def img (ls : List LineS) : List Nat := ls.flatMap fun l => lb (seenL l)
/-- All bytes, as they are seen. -/
def imgS (s : DevS) : List Nat := img s.ls
theorem img_take {ls : List LineS} {i : Nat} (h : i < ls.length) : img (ls.take (i + 1)) = img (ls.take i) ++ lb (seenL ls[i]) := by
  unfold img; rw [List.take_succ_eq_append_getElem h, List.flatMap_append]; simp only [List.flatMap_cons, List.flatMap_nil, List.append_nil]
theorem seen8 {l : LineS} (h : WfL l) : (lb (seenL l)).length = 64 := by rw [lb_length, h.eight _ (seenL_mem h)]
theorem img_length {ls : List LineS} (h : ∀ l ∈ ls, WfL l) : (img ls).length = ls.length * 64 := by
  induction ls with
  | nil => rfl
  | cons l ls ih =>
    have := ih fun x hx => h x (by simp [hx])
    have h8 := seen8 (h l (by simp))
    simp only [img, List.flatMap_cons, List.length_append, List.length_cons] at *
    omega
theorem img_at : ∀ {ls : List LineS} {i : Nat} (_ : ∀ l ∈ ls, WfL l) (hi : i < ls.length), (img ls).drop (i * 64) = lb (seenL ls[i]) ++ img (ls.drop (i + 1))
  | l :: ls, 0, _, _ => by simp [img]
  | l :: ls, i + 1, h, hi => by
    have h8 := seen8 (h l (by simp))
    have e : (i + 1) * 64 = (lb (seenL l)).length + i * 64 := by omega
    rw [e]
    show ((lb (seenL l)) ++ img ls).drop _ = _
    rw [← List.drop_drop, List.drop_left]
    exact img_at (fun x hx => h x (by simp [hx])) (by simpa using hi)
theorem img_chunk {ls : List LineS} {q c : Nat} (h : ∀ l ∈ ls, WfL l) (hq : q / 64 < ls.length) (hc : c ≤ 64 - q % 64) :
    ((lb (seenL ls[q / 64])).drop (q % 64)).take c = ((img ls).drop q).take c := by
  have h8 := seen8 (h _ (List.getElem_mem hq))
  have e : q = q / 64 * 64 + q % 64 := by omega
  conv => rhs; rw [e]
  rw [← List.drop_drop, img_at h hq, List.drop_append_of_le_length (by omega), List.take_append_of_le_length (by rw [List.length_drop]; omega)]
theorem load_step {W : List Nat} {ls : List LineS} {p m k c : Nat} (h : ∀ l ∈ ls, WfL l) (hW : W = ((img ls).drop p).take m) (hp : p + m ≤ ls.length * 64) (hk : k < m) (hc : c = min (64 - (p + k) % 64) (m - k)) (hq : (p + k) / 64 < ls.length) (z : Value) :
    splice (bys (W.take k) ++ List.replicate (m - k) z) k ((bys ((lb (seenL ls[(p + k) / 64])).drop ((p + k) % 64))).take c) = bys (W.take (k + c)) ++ List.replicate (m - (k + c)) z := by
  have hl := img_length h
  have hWl : W.length = m := by rw [hW, List.length_take, List.length_drop]; omega
  have h8 := seen8 (h _ (List.getElem_mem hq))
  have e1 : (bys ((lb (seenL ls[(p + k) / 64])).drop ((p + k) % 64))).take c = bys ((W.drop k).take c) := by
    unfold bys
    rw [← List.map_take, img_chunk h hq (by omega), hW, List.drop_take, List.drop_drop, List.take_take]
    congr 2; omega
  rw [e1, splice_eq (by simp [bys_length, hWl]; omega)]
  have e2 : (bys (W.take k)).length = k := by rw [bys_length, List.length_take]; omega
  have e3 : (bys ((W.drop k).take c)).length = c := by rw [bys_length, List.length_take, List.length_drop]; omega
  rw [e3, List.take_left' e2, ← List.drop_drop, List.drop_left' e2, List.drop_replicate, List.take_add, bys_append]
  congr 2; omega

/-- Lists of bytes, each owned. -/
def Parts : List Value → List (List Nat) → SP
  | v :: vs, x :: xs => Parts vs xs * Sl 1 v x.length (bys x)
  | [], [] => emp
  | _, _ => pure_ False
theorem parts_snoc : ∀ {vs : List Value} {ls : List (List Nat)} {v : Value} {x : List Nat} (_ : vs.length = ls.length), Parts (vs ++ [v]) (ls ++ [x]) = Parts vs ls * Sl 1 v x.length (bys x)
  | [], [], _, _, _ => rfl
  | u :: vs, y :: ls, v, x, h => by
    show Parts (vs ++ [v]) (ls ++ [x]) * Sl 1 u y.length (bys y) = _
    rw [parts_snoc (by simpa using h)]
    show _ = Parts vs ls * Sl 1 u y.length (bys y) * Sl 1 v x.length (bys x)
    rw [star_swap]

theorem Image_f (A : SP) (d bl : Nat) (svs : List Value) (av : Value) (s : DevS) (hR : DevR A d bl svs av s) :
    Fn Try.prog 33 #[.pointer (some ⟨d, 0, none⟩)] (A) (fun r B => ∃ X, B = A * X ∧ X = Sl 1 r (s.ls.length * 64) (bys (imgS s))) := by
  refine fn_enterW (args := [.pointer (some ⟨d, 0, none⟩)]) Try.func33 rfl Try.ntmps33 (by simp) ?_
  have hpos := hR.wf.pos
  have htop := hR.wf.top
  refine tc_seq ?_
  refine tc_reg ?_
  refine tl_v rfl (o_assign rfl) ?_
  refine tl_nil ?_
  refine q_then_n ?_
  refine tc_seq ?_
  refine tc_seq ?_
  refine tc_reg ?_
  refine tl_v rfl (o_move rfl) ?_
  refine tl_c rfl (o_call bd93 rfl (none_f _ d bl s.ls.length s av hR.d hpos htop)) ?_
  rintro _ _ ⟨rfl, rfl⟩
  refine tl_nil ?_
  refine q_then_n ?_
  refine tc_cond rfl (fun h => ?_) (fun h => ?_)
  · (exfalso; first | (revert h; simp; done) | (revert h; simp; omega) | (simp at h; omega) | omega)
  · try simp only [decide_eq_true_eq, decide_eq_false_iff_not, Bool.not_eq_true', Bool.not_eq_false', Option.isNone_some, Option.isNone_none, Bool.not_true, Bool.not_false] at h
    refine tc_skip ?_
    refine q_then_n ?_
    refine tc_seq ?_
    refine tc_reg ?_
    refine tl_v rfl (o_move rfl) ?_
    refine tl_c rfl (o_call bd94 rfl (Size_f _ d bl s.ls.length s av hR.d hpos htop)) ?_
    rintro _ _ ⟨rfl, rfl⟩
    refine tl_x rfl (o_makeSlice (len := 0) (cap := s.ls.length * 64) Try.underlying28 sz5 by5 z5 rfl rfl (by show Value.int .i64 ((s.ls.length : Int) * 64) = _; congr 1) (by omega) (by omega) (by omega)) ?_
    rintro _ _ ⟨b9, rfl, rfl⟩
    refine tl_pre (fun _ _ h => sl_new (k := 1) (n := 0) (cap := s.ls.length * 64) (xs := []) h (by omega) (by simp) (by simp)) ?_
    refine tl_v rfl (o_assign rfl) ?_
    refine tl_nil ?_
    refine q_then_n ?_
    refine tc_seq ?_
    refine tc_seq ?_
    refine tc_reg ?_
    refine tl_v rfl (o_move rfl) ?_
    refine tl_v rfl (o_nilCheck rfl) ?_
    refine tl_v rfl (o_fieldAddr (o := 0) Try.underlying97 rfl rfl sz95 rfl) ?_
    refine tl_v rfl (o_loadC p95 rfl (hR.d 0 _ rfl).left) ?_
    refine tl_v rfl (o_len Try.underlying95 rfl) ?_
    refine tl_v rfl (o_move rfl) ?_
    refine tl_nil ?_
    refine q_then_n ?_
    refine tc_block ?_
    refine tc_loop (fun k ρ B => ∃ (i : Nat) (v : Value), i ≤ s.ls.length ∧ k = s.ls.length - i ∧ ρ 0 = .pointer (some ⟨d, 0, none⟩) ∧ ρ 3 = v ∧ ρ 14 = .int .i64 s.ls.length ∧ ρ 15 = .int .i64 i ∧ B = A * Sl 1 v (i * 64) (bys (img (s.ls.take i)))) (m := s.ls.length) ?_ ?_
    · exact ⟨0, .slice (some ⟨b9, 0, none⟩) 0 (s.ls.length * 64), by omega, rfl, rfl, rfl, rfl, rfl, rfl⟩
    · intro k ρ B hI
      obtain ⟨i, v, hi, rfl, h0, h3, h14, h15, rfl⟩ := hI
      refine tc_env (d := 0) h0 ?_
      refine tc_env (d := 3) h3 ?_
      refine tc_env (d := 14) h14 ?_
      refine tc_env (d := 15) h15 ?_
      refine tc_seq ?_
      refine tc_reg ?_
      refine tl_v rfl (o_lss rfl rfl) ?_
      refine tl_nil ?_
      refine q_then_n ?_
      refine tc_seq ?_
      refine tc_cond rfl (fun h => ?_) (fun h => ?_)
      · simp only [decide_eq_true_eq] at h
        have hi' : i < s.ls.length := by omega
        have hwl := hR.wf.line _ (List.getElem_mem hi')
        refine tc_skip ?_
        refine q_then_n ?_
        refine tc_seq ?_
        refine tc_block ?_
        refine tc_seq ?_
        refine tc_reg ?_
        refine tl_v rfl (o_move rfl) ?_
        refine tl_v rfl (o_assign rfl) ?_
        refine tl_nil ?_
        refine q_then_n ?_
        refine tc_reg ?_
        refine tl_v rfl (o_move rfl) ?_
        refine tl_v rfl (o_move rfl) ?_
        refine tl_v rfl (o_nilCheck rfl) ?_
        refine tl_v rfl (o_fieldAddr (o := 0) Try.underlying97 rfl rfl sz95 rfl) ?_
        refine tl_v rfl (o_loadC p95 rfl (hR.d 0 _ rfl).left) ?_
        refine tl_v rfl (o_move rfl) ?_
        refine tl_v rfl (o_indexAddrN Try.underlying95 sz150 rfl rfl (by omega)) ?_
        refine tl_c rfl (o_call bd89 rfl (seenR_f hR.left hi')) ?_
        rintro _ _ ⟨rfl, rfl⟩
        refine tl_c rfl (o_call bd90 rfl (bytes_f _ (seenL s.ls[i]) (hwl.eight _ (seenL_mem hwl)) (hwl.words _ (seenL_mem hwl)))) ?_
        rintro u26 _ ⟨_, rfl, rfl⟩
        refine tl_have (fun _ _ h => sl_have h) fun ⟨a2, c2, hv2, _, hl2, hrd2⟩ => ?_
        subst hv2
        refine tl_x rfl (o_append2 Try.underlying28 Try.underlying28 sz5 by5 z5 rfl (by decide) (by decide) rfl rfl (star_swap _ _ _) hrd2 hl2 (bys_all _) (by omega)) ?_
        rintro u27 _ rfl
        refine tl_pre (fun _ _ h => h.drop2) ?_
        refine tl_v rfl (o_assign rfl) ?_
        refine tl_nil ?_
        refine q_block_n (q_then_n ?_)
        refine tc_reg ?_
        refine tl_v rfl (by first | exact o_addI rfl rfl (by omega) | exact o_add rfl rfl) ?_
        refine tl_v rfl (o_move rfl) ?_
        refine tl_nil ?_
        refine q_then_n ?_
        exact ⟨_, by omega, i + 1, u27, by omega, rfl, rfl, rfl, rfl, rfl, by rw [img_take hi', bys_append, Nat.add_mul]⟩
      · try simp only [decide_eq_true_eq, decide_eq_false_iff_not, Bool.not_eq_true', Bool.not_eq_false', Option.isNone_some, Option.isNone_none, Bool.not_true, Bool.not_false] at h
        refine tc_exit ?_
        refine q_then_e (q_then_e (q_block_x (q_then_n ?_)))
        refine tc_seq ?_
        refine tc_reg ?_
        refine tl_v rfl (o_move rfl) ?_
        refine tl_v rfl (o_assign rfl) ?_
        refine tl_nil ?_
        refine q_then_n ?_
        refine tc_ret ?_
        obtain rfl : i = s.ls.length := by omega
        rw [List.take_length]
        exact ⟨v, _, res1 rfl rfl, fun _ _ h => h, _, rfl, rfl⟩

theorem LoadNo_f (A : SP) (d bl : Nat) (svs : List Value) (av : Value) (s : DevS) (hR : DevR A d bl svs av s) (p m : Int) (hp : -9223372036854775808 ≤ p ∧ p ≤ 9223372036854775807) (hm : -9223372036854775808 ≤ m ∧ m ≤ 9223372036854775807) (hno : rdy s.ls.length s.off p m ≠ 0) :
    Fn Try.prog 27 #[.pointer (some ⟨d, 0, none⟩), .int .i64 p, .int .i64 m] (A) (fun r B => r = .tuple #[.slice none 0 0, .int .i64 (rdy s.ls.length s.off p m)] ∧ A = B) := by
  refine fn_enter (args := [.pointer (some ⟨d, 0, none⟩), .int .i64 p, .int .i64 m]) Try.func27 rfl Try.ntmps27 (by simp) ?_
  refine tc_seq ?_
  refine tc_reg ?_
  refine tl_v rfl (o_assign rfl) ?_
  refine tl_v rfl (o_assign rfl) ?_
  refine tl_nil ?_
  refine q_then_n ?_
  refine tc_seq ?_
  refine tc_seq ?_
  refine tc_reg ?_
  refine tl_v rfl (o_move rfl) ?_
  refine tl_v rfl (o_move rfl) ?_
  refine tl_v rfl (o_move rfl) ?_
  refine tl_c rfl (o_call bd88 rfl (ready_f _ d bl s.ls.length s av hR.d hR.wf.pos hR.wf.top p m hp hm)) ?_
  rintro _ _ ⟨rfl, rfl⟩
  refine tl_v rfl (o_assign rfl) ?_
  refine tl_nil ?_
  refine q_then_n ?_
  refine tc_seq ?_
  refine tc_reg ?_
  refine tl_v rfl (o_move rfl) ?_
  refine tl_v rfl (o_nei rfl rfl) ?_
  refine tl_nil ?_
  refine q_then_n ?_
  refine tc_cond rfl (fun h => ?_) (fun h => ?_)
  · try simp only [decide_eq_true_eq, decide_eq_false_iff_not, Bool.not_eq_true', Bool.not_eq_false', Option.isNone_some, Option.isNone_none, Bool.not_true, Bool.not_false] at h
    refine tc_seq ?_
    refine tc_reg ?_
    refine tl_v rfl (o_move rfl) ?_
    refine tl_v rfl (o_assign rfl) ?_
    refine tl_v rfl (o_assign rfl) ?_
    refine tl_nil ?_
    refine q_then_n ?_
    refine tc_ret ?_
    refine q_then_r ?_
    exact ⟨.tuple #[.slice none 0 0, .int .i64 (rdy s.ls.length s.off p m)], res2 rfl rfl rfl, rfl, rfl⟩
  · exfalso; simp [hno] at h

theorem Load_f (A : SP) (d bl : Nat) (svs : List Value) (av : Value) (s : DevS) (p m : Nat) (W : List Nat) (hR : DevR A d bl svs av s) (hoff : s.off = false) (hpm : p + m ≤ s.ls.length * 64) (hW : W = ((imgS s).drop p).take m) :
    Fn Try.prog 27 #[.pointer (some ⟨d, 0, none⟩), .int .i64 (p : Nat), .int .i64 (m : Nat)] (A) (fun r B => ∃ X, B = A * X ∧ ∃ u, r = .tuple #[u, .int .i64 0] ∧ X = Sl 1 u m (bys W)) := by
  refine fn_enterW (args := [.pointer (some ⟨d, 0, none⟩), .int .i64 (p : Nat), .int .i64 (m : Nat)]) Try.func27 rfl Try.ntmps27 (by simp) ?_
  have hpos := hR.wf.pos
  have htop := hR.wf.top
  have hok : rdy s.ls.length s.off p m = 0 := by unfold rdy; rw [hoff, if_neg (by simp), if_neg (by omega)]
  have hWl : W.length = m := by rw [hW, List.length_take, List.length_drop, imgS, img_length hR.wf.line]; omega
  refine tc_seq ?_
  refine tc_reg ?_
  refine tl_v rfl (o_assign rfl) ?_
  refine tl_v rfl (o_assign rfl) ?_
  refine tl_nil ?_
  refine q_then_n ?_
  refine tc_seq ?_
  refine tc_seq ?_
  refine tc_reg ?_
  refine tl_v rfl (o_move rfl) ?_
  refine tl_v rfl (o_move rfl) ?_
  refine tl_v rfl (o_move rfl) ?_
  refine tl_c rfl (o_call bd88 rfl (ready_f _ d bl s.ls.length s av hR.d hR.wf.pos hR.wf.top p m (by omega) (by omega))) ?_
  rintro _ _ ⟨rfl, rfl⟩
  refine tl_v rfl (o_assign rfl) ?_
  refine tl_nil ?_
  refine q_then_n ?_
  refine tc_seq ?_
  refine tc_reg ?_
  refine tl_v rfl (o_move rfl) ?_
  refine tl_v rfl (o_nei rfl rfl) ?_
  refine tl_nil ?_
  refine q_then_n ?_
  refine tc_cond rfl (fun h => ?_) (fun h => ?_)
  · exfalso; simp [hok] at h
  · try simp only [decide_eq_true_eq, decide_eq_false_iff_not, Bool.not_eq_true', Bool.not_eq_false', Option.isNone_some, Option.isNone_none, Bool.not_true, Bool.not_false] at h
    refine tc_skip ?_
    refine q_then_n ?_
    refine tc_seq ?_
    refine tc_reg ?_
    refine tl_v rfl (o_move rfl) ?_
    refine tl_x rfl (o_makeSlice (len := m) (cap := m) Try.underlying28 sz5 by5 z5 rfl rfl rfl (by omega) (by omega) (by omega)) ?_
    rintro _ _ ⟨b21, rfl, rfl⟩
    refine tl_v rfl (o_assign rfl) ?_
    refine tl_nil ?_
    refine q_then_n ?_
    refine tc_seq ?_
    refine tc_seq ?_
    refine tc_reg ?_
    refine tl_v rfl (o_assign rfl) ?_
    refine tl_nil ?_
    refine q_then_n ?_
    refine tc_block ?_
    refine tc_loop (fun j ρ B => ∃ (k : Nat), k ≤ m ∧ j = m - k ∧ ρ 0 = .pointer (some ⟨d, 0, none⟩) ∧ ρ 1 = .int .i64 (p : Nat) ∧ ρ 2 = .int .i64 (m : Nat) ∧ ρ 9 = .slice (some ⟨b21, 0, none⟩) m m ∧ ρ 10 = .int .i64 (k : Nat) ∧ B = A * pt b21 (cl (bys (W.take k) ++ List.replicate (m - k) (.int .u8 0)) 5)) (m := m) ?_ ?_
    · exact ⟨0, by omega, rfl, rfl, rfl, rfl, rfl, rfl, rfl⟩
    · intro k ρ B hI
      obtain ⟨k, hk, rfl, h0, h1, h2, h9, h10, rfl⟩ := hI
      refine tc_env (d := 0) h0 ?_
      refine tc_env (d := 1) h1 ?_
      refine tc_env (d := 2) h2 ?_
      refine tc_env (d := 9) h9 ?_
      refine tc_env (d := 10) h10 ?_
      refine tc_seq ?_
      refine tc_seq ?_
      refine tc_reg ?_
      refine tl_v rfl (o_move rfl) ?_
      refine tl_v rfl (o_move rfl) ?_
      refine tl_v rfl (o_lss rfl rfl) ?_
      refine tl_nil ?_
      refine q_then_n ?_
      refine tc_cond rfl (fun h => ?_) (fun h => ?_)
      · simp only [decide_eq_true_eq] at h
        have hk' : k < m := by omega
        have hq : (p + k) / 64 < s.ls.length := by omega
        have hwl := hR.wf.line _ (List.getElem_mem hq)
        have h64 := seen8 hwl
        refine tc_skip ?_
        refine q_then_n ?_
        refine tc_block ?_
        refine tc_seq ?_
        refine tc_reg ?_
        refine tl_v rfl (o_move rfl) ?_
        refine tl_v rfl (o_move rfl) ?_
        refine tl_v rfl (by first | exact o_addI rfl rfl (by omega) | exact o_add rfl rfl) ?_
        refine tl_env (d := 27) (v := .int .i64 ((p + k : Nat) : Int)) rfl ?_
        refine tl_v rfl (o_assign rfl) ?_
        refine tl_nil ?_
        refine q_then_n ?_
        refine tc_seq ?_
        refine tc_reg ?_
        refine tl_v rfl (o_move rfl) ?_
        refine tl_v rfl (o_nilCheck rfl) ?_
        refine tl_v rfl (o_fieldAddr (o := 0) Try.underlying97 rfl rfl sz95 rfl) ?_
        refine tl_v rfl (o_loadC p95 rfl (hR.d 0 _ rfl).left) ?_
        refine tl_v rfl (o_move rfl) ?_
        refine tl_v rfl (o_quoN (a := p + k) (b := 64) rfl rfl (by omega)) ?_
        refine tl_v rfl (o_indexAddrN (j := (p + k) / 64) Try.underlying95 sz150 rfl rfl hq) ?_
        refine tl_c rfl (o_call bd89 rfl (seenR_f hR.left hq)) ?_
        rintro _ _ ⟨rfl, rfl⟩
        refine tl_c rfl (o_call bd90 rfl (bytes_f _ (seenL s.ls[(p + k) / 64]) (hwl.eight _ (seenL_mem hwl)) (hwl.words _ (seenL_mem hwl)))) ?_
        rintro u36 _ ⟨_, rfl, rfl⟩
        refine tl_have (fun _ _ h => sl_have h) fun ⟨a2, c2, hv2, hnc2, hl2, hrd2⟩ => ?_
        subst hv2
        refine tl_v rfl (o_assign rfl) ?_
        refine tl_nil ?_
        refine q_then_n ?_
        refine tc_rega mo ?_
        show TA _ _ _ _ 11 #[false, false, false, false, false, false, false, false, false, false, false] _ _
        refine ta_pure (i := 0) (listed' := #[true, false, false, false, false, false, false, false, false, false, false]) rfl (by kernel_rfl) (by kernel_rfl) (by kernel_rfl) rfl rfl (o_move rfl) ?_
        refine ta_pure (i := 1) (listed' := #[true, true, false, false, false, false, false, false, false, false, false]) rfl (by kernel_rfl) (by kernel_rfl) (by kernel_rfl) rfl rfl (o_move rfl) ?_
        refine ta_pure (i := 2) (listed' := #[true, true, true, false, false, false, false, false, false, false, false]) rfl (by kernel_rfl) (by kernel_rfl) (by kernel_rfl) rfl rfl (o_move rfl) ?_
        refine ta_pure (i := 3) (listed' := #[true, true, true, true, false, false, false, false, false, false, false]) rfl (by kernel_rfl) (by kernel_rfl) (by kernel_rfl) rfl rfl (o_slice (l := k) (h := m) Try.underlying28 sz5 rfl (bnd_nat (r := k) rfl) bnd_none (by omega) (by omega)) ?_
        refine ta_pure (i := 4) (listed' := #[true, true, true, true, true, false, false, false, false, false, false]) rfl (by kernel_rfl) (by kernel_rfl) (by kernel_rfl) rfl rfl (o_move rfl) ?_
        refine ta_pure (i := 5) (listed' := #[true, true, true, true, true, true, false, false, false, false, false]) rfl (by kernel_rfl) (by kernel_rfl) (by kernel_rfl) rfl rfl (o_move rfl) ?_
        refine ta_pure (i := 6) (listed' := #[true, true, true, true, true, true, true, false, false, false, false]) rfl (by kernel_rfl) (by kernel_rfl) (by kernel_rfl) rfl rfl (o_remN (a := p + k) (b := 64) rfl rfl (by omega)) ?_
        refine ta_pure (i := 7) (listed' := #[true, true, true, true, true, true, true, true, false, false, false]) rfl (by kernel_rfl) (by kernel_rfl) (by kernel_rfl) rfl rfl (o_slice (l := (p + k) % 64) (h := 64) Try.underlying28 sz5 rfl (bnd_nat (r := (p + k) % 64) rfl) bnd_none (by omega) (by omega)) ?_
        obtain ⟨b2, o2, rfl, hcs2⟩ := hrd2.some (by rw [bys_length]; omega)
        have hlt2 : (p + k) % 64 < c2 := by omega
        have hsub : Rd (A * pt b21 (cl (bys (W.take k) ++ List.replicate (m - k) (.int .u8 0)) 5) * Sl 1 (.slice (some ⟨b2, o2, none⟩) 64 c2) 64 (bys (lb (seenL s.ls[(p + k) / 64])))) (cutAddr (some ⟨b2, o2, none⟩) c2 ((p + k) % 64) 1) (bys ((lb (seenL s.ls[(p + k) / 64])).drop ((p + k) % 64))) := by
          rw [cut_lt hlt2]
          refine rd_cells (hcs2.sub ((p + k) % 64 * 1) (64 - (p + k) % 64) ?_)
          unfold bys
          rw [Nat.mul_one, List.map_drop, List.take_of_length_le]
          rw [List.length_drop, List.length_map]; omega
        refine ta_one (i := 8) (by kernel_rfl) ?_
        refine oa_x (i := 8) (listed' := #[true, true, true, true, true, true, true, true, true, false, false]) rfl rfl rfl (o_copy (b := b21) (off := k) (dl := m - k) (dc := m - k) (m := min (64 - (p + k) % 64) (m - k)) (l' := bys (W.take (k + min (64 - (p + k) % 64) (m - k))) ++ List.replicate (m - (k + min (64 - (p + k) % 64) (m - k))) (.int .u8 0)) Try.underlying28 sz5 (by show Value.slice (cutAddr (some ⟨b21, 0, none⟩) m k 1) (m - k) (m - k) = _; rw [cut_lt hk', Nat.zero_add, Nat.mul_one]) rfl hsub (by rw [bys_length, List.length_drop]; omega) rfl bys_oneC (by rw [List.length_append, bys_length, List.length_take, List.length_replicate]; omega) (load_step hR.wf.line hW hpm hk' rfl hq _) (upd_left upd_here)) ?_
        rintro _ _ ⟨rfl, rfl⟩
        refine ta_pre (fun _ _ h => h.left) ?_
        refine ta_pure (i := 9) (listed' := #[true, true, true, true, true, true, true, true, true, true, false]) rfl (by kernel_rfl) (by kernel_rfl) (by kernel_rfl) rfl rfl (by first | exact o_addI rfl rfl (by omega) | exact o_add rfl rfl) ?_
        refine ta_pure (i := 10) (listed' := #[true, true, true, true, true, true, true, true, true, true, true]) rfl (by kernel_rfl) (by kernel_rfl) (by kernel_rfl) rfl rfl (o_assign rfl) ?_
        refine ta_done (by kernel_rfl) ?_
        refine q_block_n (q_then_n ?_)
        exact ⟨_, by omega, k + min (64 - (p + k) % 64) (m - k), by omega, rfl, rfl, rfl, rfl, rfl, rfl, rfl⟩
      · try simp only [decide_eq_true_eq, decide_eq_false_iff_not, Bool.not_eq_true', Bool.not_eq_false', Option.isNone_some, Option.isNone_none, Bool.not_true, Bool.not_false] at h
        refine tc_exit ?_
        refine q_then_e (q_then_e (q_block_x (q_then_n ?_)))
        refine tc_seq ?_
        refine tc_reg ?_
        refine tl_v rfl (o_move rfl) ?_
        refine tl_v rfl (o_assign rfl) ?_
        refine tl_v rfl (o_assign rfl) ?_
        refine tl_nil ?_
        refine q_then_n ?_
        refine tc_ret ?_
        obtain rfl : k = m := by omega
        rw [List.take_of_length_le (by omega), Nat.sub_self]
        exact ⟨.tuple #[.slice (some ⟨b21, 0, none⟩) k k, .int .i64 0], _, res2 rfl rfl rfl, fun _ _ h => sl_new (k := 1) (n := k) (cap := k) (xs := bys W) h (by omega) (by simp [bys_length, hWl]) (List.take_of_length_le (by simp [bys_length, hWl]) |>.trans (by simp)), _, rfl, _, rfl, rfl⟩

end Go.Vl
