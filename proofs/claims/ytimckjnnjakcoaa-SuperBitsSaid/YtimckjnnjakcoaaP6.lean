/- Walks of package pmem: Copy. Conditions: none. -/
import Derived.Test.YtimckjnnjakcoaaP5
set_option linter.unusedVariables false
set_option linter.unusedSimpArgs false
namespace Go.Vl
open Go Go.Proofs


theorem noneD_c {A R : SP} {C : SP → SP} {d : Nat} {s : DevS} (hc : Ct A (Dev d s) R C := by repeat (first | with_reducible exact ct_here | apply ct_left)) : Fn Try.prog 93 #[.pointer (some ⟨d, 0, none⟩)] A (fun r B => r = .bool false ∧ A = B) := by
  obtain ⟨rfl, hC⟩ := hc
  exact fn_devR0 fun _ A bl svs av hR => none_f A d bl s.ls.length s av hR.d hR.wf.pos hR.wf.top
theorem Size_c {A R : SP} {C : SP → SP} {d : Nat} {s : DevS} (hc : Ct A (Dev d s) R C := by repeat (first | with_reducible exact ct_here | apply ct_left)) : Fn Try.prog 94 #[.pointer (some ⟨d, 0, none⟩)] A (fun r B => r = .int .i64 ((s.ls.length : Int) * 64) ∧ A = B) := by
  obtain ⟨rfl, hC⟩ := hc
  exact fn_devR0 fun _ A bl svs av hR => Size_f A d bl s.ls.length s av hR.d hR.wf.pos hR.wf.top

theorem slR_dup {k n : Nat} {v : Value} {xs : List Value} : SlR k v n xs = SlR k v n xs * SlR k v n xs := by
  apply SP.ext
  intro h
  constructor
  · rintro ⟨hl, ⟨e1, e2, rfl⟩ | ⟨b, off, cap, l, E, e1, h1, h2, h3, h4⟩⟩
    · exact ⟨_, _, fun _ => .inl rfl, by funext b; simp [Hp.un], ⟨hl, .inl ⟨e1, e2, rfl⟩⟩, ⟨hl, .inl ⟨e1, e2, rfl⟩⟩⟩
    · rw [ro_dup] at h4
      obtain ⟨x, y, hd, e, hx, hy⟩ := h4
      exact ⟨x, y, hd, e, ⟨hl, .inr ⟨b, off, cap, l, E, e1, h1, h2, h3, hx⟩⟩, ⟨hl, .inr ⟨b, off, cap, l, E, e1, h1, h2, h3, hy⟩⟩⟩
  · rintro ⟨x, y, hd, rfl, ⟨hl, hx⟩, ⟨_, hy⟩⟩
    refine ⟨hl, ?_⟩
    rcases hx with ⟨e1, e2, rfl⟩ | ⟨b, off, cap, l, E, e1, h1, h2, h3, h4⟩
    · rcases hy with ⟨_, _, rfl⟩ | ⟨b', off', cap', l', E', e1', _⟩
      · exact .inl ⟨e1, e2, by funext b; simp [Hp.un]⟩
      · rw [e1] at e1'; cases e1'
    · rcases hy with ⟨e1', _⟩ | ⟨b', off', cap', l', E', e1', h1', h2', h3', h4'⟩
      · rw [e1] at e1'; cases e1'
      · rw [e1] at e1'
        simp only [Value.slice.injEq, Option.some.injEq, Addr.mk.injEq] at e1'
        obtain ⟨⟨rfl, rfl, _⟩, _, rfl⟩ := e1'
        refine .inr ⟨b, off, cap, l, E, e1, h1, h2, h3, ?_⟩
        have hxb : x b = some (cl l E, true) := by rw [show x = _ from h4]; simp
        have hyb : y b = some (cl l' E', true) := by rw [show y = _ from h4']; simp
        have : cl l E = cl l' E' := by
          rcases hd b with h | h | ⟨o, g1, g2⟩
          · rw [hxb] at h; cases h
          · rw [hyb] at h; cases h
          · rw [hxb] at g1; rw [hyb] at g2
            simp at g1 g2; rw [g1, g2]
        have h5 : ro b (cl l E) y := by show y = _; rw [this]; exact h4'
        have : (ro b (cl l E) * ro b (cl l E)) (x.un y) := ⟨x, y, hd, rfl, h4, h5⟩
        rwa [← ro_dup] at this
theorem keepsR_dup : ∀ {kvs : List Value} {ars : List (Int × List Int)}, KeepsR kvs ars = KeepsR kvs ars * KeepsR kvs ars
  | [], [] => (emp_star emp).symm
  | v :: vs, a :: ar => by
    show KeepsR vs ar * SlR 1 v a.2.length (ints a.2) = KeepsR vs ar * SlR 1 v a.2.length (ints a.2) * (KeepsR vs ar * SlR 1 v a.2.length (ints a.2))
    rw [show KeepsR vs ar * SlR 1 v a.2.length (ints a.2) * (KeepsR vs ar * SlR 1 v a.2.length (ints a.2)) = (KeepsR vs ar * KeepsR vs ar) * (SlR 1 v a.2.length (ints a.2) * SlR 1 v a.2.length (ints a.2)) by ac_rfl, ← slR_dup, ← keepsR_dup]
  | [], _ :: _ => by
    apply SP.ext; intro h
    constructor
    · rintro ⟨hf, _⟩; exact hf.elim
    · rintro ⟨_, _, _, _, ⟨hf, _⟩, _⟩; exact hf.elim
  | _ :: _, [] => by
    apply SP.ext; intro h
    constructor
    · rintro ⟨hf, _⟩; exact hf.elim
    · rintro ⟨_, _, _, _, ⟨hf, _⟩, _⟩; exact hf.elim
/-- Lines of which the first are copied. -/
def cpB (ws : List Value) (ls : List LineS) (i : Nat) : List Value := lcs (ws ++ List.replicate (ls.length - i) (.slice none 0 0)) (ls.take i ++ List.replicate (ls.length - i) ⟨[], 0⟩)
theorem cpB_zero (ls : List LineS) : cpB [] ls 0 = reps [.slice none 0 0, .int .i64 0] ls.length := by
  unfold cpB; rw [List.take_zero, List.nil_append, List.nil_append, Nat.sub_zero, lcs_blank]
theorem cpB_all {ws : List Value} {ls : List LineS} (h : ws.length = ls.length) : cpB ws ls ls.length = lcs ws ls := by
  unfold cpB; simp
theorem set_mid {α : Type} {a : List α} {x y : α} {n i : Nat} (h : a.length = i) (hn : i < n) : (a ++ List.replicate (n - i) y).set i x = a ++ [x] ++ List.replicate (n - (i + 1)) y := by
  obtain ⟨k, hk⟩ : ∃ k, n - i = k + 1 := ⟨n - i - 1, by omega⟩
  rw [hk, show n - (i + 1) = k by omega, List.replicate_succ, List.set_append_right _ _ (by omega), h, Nat.sub_self, List.set_cons_zero, List.append_assoc]; rfl
theorem cpB_step {ws : List Value} {ls : List LineS} {i : Nat} {v : Value} (h : ws.length = i) (hi : i < ls.length) : splice (cpB ws ls i) (i * 2) [v, .int .i64 ls[i].mark] = cpB (ws ++ [v]) ls (i + 1) := by
  have hl : (ws ++ List.replicate (ls.length - i) (Value.slice none 0 0)).length = (ls.take i ++ List.replicate (ls.length - i) (⟨[], 0⟩ : LineS)).length := by simp; omega
  show ((lcs _ _).set (i * 2) v).set (i * 2 + 1) (.int .i64 ls[i].mark) = _
  rw [lcs_set hl (by simp; omega), set_mid h hi, set_mid (by rw [List.length_take]; omega) hi]
  unfold cpB
  rw [List.take_succ_eq_append_getElem hi]
theorem linesR_snoc : ∀ {ws : List Value} {ls : List LineS} {v : Value} {l : LineS} (_ : ws.length = ls.length), LinesR (ws ++ [v]) (ls ++ [l]) = LinesR ws ls * Sl 8 v l.st.length (stc l.st)
  | [], [], _, _, _ => rfl
  | u :: vs, y :: ls, v, l, h => by
    show LinesR (vs ++ [v]) (ls ++ [l]) * Sl 8 u y.st.length (stc y.st) = _
    rw [linesR_snoc (by simpa using h)]
    show _ = LinesR vs ls * Sl 8 u y.st.length (stc y.st) * Sl 8 v l.st.length (stc l.st)
    rw [star_swap]
theorem stc_oneC (st : List (List Nat)) : (stc st).all oneC = true := by
  rw [List.all_eq_true]
  intro u hu
  simp only [stc, List.mem_flatMap] at hu
  obtain ⟨s, _, hu⟩ := hu
  exact wds_oneC u hu
theorem acs_oneC : ∀ {kvs : List Value} {ars : List (Int × List Int)}, (∀ v ∈ kvs, oneC v = true) → (acs kvs ars).all oneC = true
  | [], [], _ => rfl
  | [], _ :: _, _ => rfl
  | _ :: _, [], _ => rfl
  | v :: vs, a :: ar, h => by
    show (true && (oneC v && (acs vs ar).all oneC)) = true
    rw [h v (by simp), acs_oneC fun v hv => h v (List.mem_cons_of_mem _ hv)]; rfl
theorem keepsR_one : ∀ {kvs : List Value} {ars : List (Int × List Int)} {R : SP} {g : Gh} {w : World}, sat g w (R * KeepsR kvs ars) → ∀ v ∈ kvs, oneC v = true
  | [], _, _, _, _, _ => by simp
  | v :: vs, [], R, g, w, h => by
    obtain ⟨_, ⟨_, _, _, _, _, ⟨hf, _⟩⟩, _⟩ := h.hp; exact hf.elim
  | v :: vs, a :: ar, R, g, w, h => by
    have h' : sat g w (R * KeepsR vs ar * SlR 1 v a.2.length (ints a.2)) := h.perm (by show _ * (_ * _) = _; ac_rfl)
    intro u hu
    rcases List.mem_cons.1 hu with rfl | hu
    · obtain ⟨_, _, e, _⟩ := slR_have rfl h'; rw [e]; rfl
    · exact keepsR_one h'.left u hu
theorem copy_back {F : SP} {d d2 bl b2 : Nat} {svs ws kvs : List Value} {av av2 : Value} {s : DevS} (hw : WfD s) (hsv : svs.length = s.ls.length) (hws : ws.length = s.ls.length) (hkv : kvs.length = s.arms.length) {g : Gh} {w : World}
    (h : sat g w (F * DevC d bl svs av kvs s * pt d2 (cl (dcs b2 s.ls.length s av2) 97) * pt b2 (cl (lcs ws s.ls) 150) * LinesR ws s.ls * Sl 2 av2 s.arms.length (acs kvs s.arms))) : sat g w (F * Dev d s * Dev d2 s) := by
  have e : F * DevC d bl svs av kvs s * pt d2 (cl (dcs b2 s.ls.length s av2) 97) * pt b2 (cl (lcs ws s.ls) 150) * LinesR ws s.ls * Sl 2 av2 s.arms.length (acs kvs s.arms) = F * DevC d2 b2 ws av2 kvs s * DevC d bl svs av kvs s := by
    unfold DevC ArmsR
    conv => lhs; rw [keepsR_dup (kvs := kvs)]
    ac_rfl
  rw [e] at h
  have h1 := dev_back hw hsv hkv g w h
  rw [star_swap] at h1
  exact dev_back hw hws hkv g w h1

theorem CopyW_f (F : SP) {d : Nat} {s : DevS} :
    Fn Try.prog 38 #[.pointer (some ⟨d, 0, none⟩)] (F * Dev d s) (fun r B => ∃ d2, r = .pointer (some ⟨d2, 0, none⟩) ∧ B = F * Dev d s * Dev d2 s) := by
  refine fn_enterW (args := [.pointer (some ⟨d, 0, none⟩)]) Try.func38 rfl Try.ntmps38 (by simp) ?_
  refine tc_seq ?_
  refine tc_reg ?_
  refine tl_v rfl (o_assign (by conv => lhs; whnf)) ?_
  refine tl_nil ?_
  refine q_then_n ?_
  refine tc_seq ?_
  refine tc_seq ?_
  refine tc_reg ?_
  refine tl_v rfl (o_move (by conv => lhs; whnf)) ?_
  refine tl_c rfl (o_call bd93 rfl (noneD_c)) ?_
  rintro _ _ ⟨rfl, rfl⟩
  refine tl_nil ?_
  refine q_then_n ?_
  refine tc_cond rfl (fun h => ?_) (fun h => ?_)
  · (exfalso; first | (revert h; simp; done) | (simp at h; done) | (revert h; simp; omega) | (simp at h; omega) | omega)
  · try simp only [decide_eq_true_eq, decide_eq_false_iff_not, Bool.not_eq_true', Bool.not_eq_false', Option.isNone_some, Option.isNone_none, Bool.not_true, Bool.not_false] at h
    refine tc_skip ?_
    refine q_then_n ?_
    refine tc_seq ?_
    refine tc_dev fun hw bl svs av kvs hsv hkv => ?_
    have hpos := hw.pos
    have htop := hw.top
    have ha64 := hw.arms
    refine tc_have (fun _ _ h => devC_arms h) fun ⟨aa, ca, hav, hca, hal, hrd⟩ => ?_
    subst hav
    refine tc_have (fun _ _ h => keepsR_one (R := F * pt d (cl (dcs bl s.ls.length s (.slice aa s.arms.length ca)) 97) * pt bl (cl (lcs svs s.ls) 150) * LinesR svs s.ls * Sl 2 (.slice aa s.arms.length ca) s.arms.length (acs kvs s.arms)) (h.perm (by unfold DevC ArmsR; ac_rfl))) fun hk1 => ?_
    refine tc_have (fun _ _ h => devR_of hw hsv h) fun hR => ?_
    refine tc_reg ?_
    refine tl_v rfl (o_move (by conv => lhs; whnf)) ?_
    refine tl_v rfl (o_nilCheck rfl) ?_
    refine tl_v rfl (o_loadN (vs := dcs bl s.ls.length s (.slice aa s.arms.length ca)) a97 sz97 rfl devC_d (by show 5 ≤ 5; decide) rfl) ?_
    refine tl_x rfl (o_alloc z97 rfl) ?_
    rintro _ _ ⟨b3, rfl, rfl⟩
    refine tl_u rfl (o_stUN (l' := dcs bl s.ls.length s (.slice aa s.arms.length ca)) rfl upd_here sz97 rfl rfl rfl (by simp) rfl) ?_
    refine tl_nil ?_
    refine q_then_n ?_
    refine tc_seq ?_
    refine tc_reg ?_
    refine tl_v rfl (o_move (by conv => lhs; whnf)) ?_
    refine tl_v rfl (o_nilCheck rfl) ?_
    refine tl_v rfl (o_fieldAddr (o := 0) Try.underlying97 rfl rfl sz95 rfl) ?_
    refine tl_v rfl (o_load p95 rfl (has_left devC_d) rfl) ?_
    refine tl_v rfl (o_len Try.underlying95 rfl) ?_
    refine tl_x rfl (o_makeSliceK (k := 2) (len := s.ls.length) (cap := s.ls.length) (zl := [.slice none 0 0, .int .i64 0]) Try.underlying95 sz150 by150 z150 rfl (by decide) rfl rfl (by omega) (by omega) (by omega) (by omega)) ?_
    rintro _ _ ⟨b16, rfl, rfl⟩
    refine tl_v rfl (o_fieldAddr (o := 0) Try.underlying97 rfl rfl sz95 rfl) ?_
    refine tl_u rfl (o_stU (l' := dcs b16 s.ls.length s (.slice aa s.arms.length ca)) rfl (by repeat (first | with_reducible exact upd_here | with_reducible exact upd_pt | apply upd_left)) sz95 rfl rfl (by show 0 < 5; decide) rfl) ?_
    refine tl_nil ?_
    refine q_then_n ?_
    refine tc_seq ?_
    refine tc_seq ?_
    refine tc_reg ?_
    refine tl_v rfl (o_move (by conv => lhs; whnf)) ?_
    refine tl_v rfl (o_nilCheck rfl) ?_
    refine tl_v rfl (o_fieldAddr (o := 0) Try.underlying97 rfl rfl sz95 rfl) ?_
    refine tl_v rfl (o_load p95 rfl (has_left (has_left devC_d)) rfl) ?_
    refine tl_v rfl (o_len Try.underlying95 rfl) ?_
    refine tl_v rfl (o_move (by conv => lhs; whnf)) ?_
    refine tl_nil ?_
    refine q_then_n ?_
    refine tc_block ?_
    refine tc_loop (fun kk ρ BB => ∃ (i : Nat) (ws : List Value), (i ≤ s.ls.length) ∧ (ws.length = i) ∧ kk = s.ls.length - i ∧ ρ 23 = .int .i64 (i : Nat) ∧ ρ 0 = .pointer (some ⟨d, 0, none⟩) ∧ ρ 3 = .pointer (some ⟨b3, 0, none⟩) ∧ ρ 21 = .slice (some ⟨bl, 0, none⟩) s.ls.length s.ls.length ∧ ρ 22 = .int .i64 (s.ls.length : Nat) ∧ BB = F * DevC d bl svs (.slice aa s.arms.length ca) kvs s * pt b3 (cl (dcs b16 s.ls.length s (.slice aa s.arms.length ca)) 97) * pt b16 (cl (cpB ws s.ls i) 150) * LinesR ws (s.ls.take i)) (m := s.ls.length - (0)) ?_ ?_
    · exact ⟨0, [], by omega, rfl, rfl, rfl, rfl, rfl, rfl, rfl, by rw [cpB_zero, List.take_zero]; exact (star_emp _).symm⟩
    · intro k ρ B hI
      obtain ⟨i, ws, hp0, hp1, hkk1, hE23, hE0, hE3, hE21, hE22, rfl⟩ := hI
      refine tc_env (d := 23) hE23 ?_
      refine tc_env (d := 0) hE0 ?_
      refine tc_env (d := 3) hE3 ?_
      refine tc_env (d := 21) hE21 ?_
      refine tc_env (d := 22) hE22 ?_
      clear hE23 hE0 hE3 hE21 hE22
      refine tc_seq ?_
      refine tc_reg ?_
      refine tl_v rfl (o_lss rfl rfl) ?_
      refine tl_nil ?_
      refine q_then_n ?_
      refine tc_seq ?_
      refine tc_cond rfl (fun h => ?_) (fun h => ?_)
      · have hi : i < s.ls.length := by simp at h; omega
        have hwl := hw.line _ (List.getElem_mem hi)
        obtain ⟨az, cz, hsv1, hcz, hrz⟩ := hR.st i hi
        have hsm := hwl.small
        have hlc : ((lcs svs s.ls).drop (i * 2)).take 2 = [.slice az s.ls[i].st.length cz, .int .i64 s.ls[i].mark] := by
          have h1 := lcs_sv (i := i) hsv (by omega)
          have h2 := lcs_mark hsv hi
          rw [List.getElem?_eq_getElem (by omega)] at hsv1
          rw [Option.some.inj hsv1] at h1
          apply List.ext_getElem?
          intro j
          rw [List.getElem?_take, List.getElem?_drop]
          match j with
          | 0 => simpa using h1
          | 1 => simpa using h2
          | j + 2 => rw [if_neg (by omega)]; rfl
        refine tc_skip ?_
        refine q_then_n ?_
        refine tc_seq ?_
        refine tc_block ?_
        refine tc_seq ?_
        refine tc_reg ?_
        refine tl_v rfl (o_move (by conv => lhs; whnf)) ?_
        refine tl_v rfl (o_indexAddrN Try.underlying95 sz150 rfl rfl (by omega)) ?_
        refine tl_v rfl (o_loadNC (vs := [.slice az s.ls[i].st.length cz, .int .i64 s.ls[i].mark]) a150 sz150 rfl rfl (by repeat (first | exact cells_of_has devC_bl (by rw [Nat.zero_add]; exact hlc) | apply Cells.left))) ?_
        refine tl_x rfl (o_alloc z150 rfl) ?_
        rintro _ _ ⟨b5, rfl, rfl⟩
        refine tl_v rfl (o_assign (by conv => lhs; whnf)) ?_
        refine tl_u rfl (o_stUN (l' := [.slice az s.ls[i].st.length cz, .int .i64 s.ls[i].mark]) rfl upd_here sz150 rfl rfl rfl (by simp) rfl) ?_
        refine tl_nil ?_
        refine q_then_n ?_
        refine tc_regh (S := F * DevC d bl svs (.slice aa s.arms.length ca) kvs s * pt b3 (cl (dcs b16 s.ls.length s (.slice aa s.arms.length ca)) 97) * pt b5 (cl [.slice az s.ls[i].st.length cz, .int .i64 s.ls[i].mark] 150)) mo (by repeat (first | with_reducible exact dr_refl | apply dr_keep | apply dr_drop)) ?_
        show TH _ _ _ _ _ 11 #[false, false, false, false, false, false, false, false, false, false, false] _ _
        refine th_take (i := 0) (listed' := #[true, false, false, false, false, false, false, false, false, false, false]) rfl (by kernel_rfl) (by kernel_rfl) (by kernel_rfl) rfl rfl (o_fieldAddr (o := 0) Try.underlying97 rfl rfl sz95 rfl) ?_
        refine th_take (i := 1) (listed' := #[true, true, false, false, false, false, false, false, false, false, false]) rfl (by kernel_rfl) (by kernel_rfl) (by kernel_rfl) rfl rfl (by first | exact o_load p95 rfl (by repeat (first | with_reducible exact has_here | with_reducible exact has_pt | apply has_left)) rfl | exact o_loadC p95 rfl (by assumption)) ?_
        refine th_take (i := 2) (listed' := #[true, true, true, false, false, false, false, false, false, false, false]) rfl (by kernel_rfl) (by kernel_rfl) (by kernel_rfl) rfl rfl (o_move (by conv => lhs; whnf)) ?_
        refine th_take (i := 3) (listed' := #[true, true, true, true, false, false, false, false, false, false, false]) rfl (by kernel_rfl) (by kernel_rfl) (by kernel_rfl) rfl rfl (o_fieldAddr (o := 0) Try.underlying150 rfl rfl sz148 rfl) ?_
        refine th_take (i := 4) (listed' := #[true, true, true, true, true, false, false, false, false, false, false]) rfl (by kernel_rfl) (by kernel_rfl) (by kernel_rfl) rfl rfl (by first | exact o_load p148 rfl (by repeat (first | with_reducible exact has_here | with_reducible exact has_pt | apply has_left)) rfl | exact o_loadC p148 rfl (by assumption)) ?_
        refine th_take (i := 6) (listed' := #[true, true, true, true, true, false, true, false, false, false, false]) rfl (by kernel_rfl) (by kernel_rfl) (by kernel_rfl) rfl rfl (o_fieldAddr (o := 1) Try.underlying150 rfl rfl sz3 rfl) ?_
        refine th_take (i := 7) (listed' := #[true, true, true, true, true, false, true, true, false, false, false]) rfl (by kernel_rfl) (by kernel_rfl) (by kernel_rfl) rfl rfl (by first | exact o_load p3 rfl (by repeat (first | with_reducible exact has_here | with_reducible exact has_pt | apply has_left)) rfl | exact o_loadC p3 rfl (by assumption)) ?_
        refine th_one (i := 5) (by kernel_rfl) ?_
        refine oh_c (i := 5) (listed' := #[true, true, true, true, true, true, true, true, false, false, false]) rfl rfl rfl (o_call bd95 rfl (CloneS_c (hr := rs_rd (by repeat (first | exact hrz | apply Rd.left))) (hl := stc_length hwl.eight) (ho := stc_oneC _))) ?_
        rintro _ _ ⟨a33, c33, rfl, hc33, rfl⟩
        refine ⟨by repeat (first | with_reducible exact dr_refl | apply dr_keep | apply dr_drop), ?_⟩
        refine th_take (i := 8) (listed' := #[true, true, true, true, true, true, true, true, true, false, false]) rfl (by kernel_rfl) (by kernel_rfl) (by kernel_rfl) rfl rfl (o_bS (l := [.slice a33 s.ls[i].st.length c33, .int .i64 s.ls[i].mark]) (pv_cons (by conv => lhs; whnf) (pv_cons (by conv => lhs; whnf) pv_nil)) Try.underlying150 z150 (pl150 Try.underlying150) rfl) ?_
        refine th_take (i := 9) (listed' := #[true, true, true, true, true, true, true, true, true, true, false]) rfl (by kernel_rfl) (by kernel_rfl) (by kernel_rfl) rfl rfl (o_indexAddrN Try.underlying95 sz150 rfl rfl (by omega)) ?_
        refine th_one (i := 10) (by kernel_rfl) ?_
        refine oh_u (i := 10) (listed' := #[true, true, true, true, true, true, true, true, true, true, true]) rfl rfl rfl (o_stUN (l' := cpB (ws ++ [.slice a33 s.ls[i].st.length c33]) s.ls (i + 1)) rfl (by repeat (first | with_reducible exact upd_here | with_reducible exact upd_pt | apply upd_left)) sz150 rfl rfl rfl (by unfold cpB; rw [lcs_length (by simp; omega)]; simp; omega) (by rw [Nat.zero_add]; exact cpB_step hp1 hi)) (by repeat (first | with_reducible exact dr_refl | apply dr_keep | apply dr_drop)) ?_
        refine th_done (by kernel_rfl) ?_
        refine q_block_n (q_then_n ?_)
        refine tc_pre (A' := F * DevC d bl svs (.slice aa s.arms.length ca) kvs s * pt b3 (cl (dcs b16 s.ls.length s (.slice aa s.arms.length ca)) 97) * pt b16 (cl (cpB (ws ++ [.slice a33 s.ls[i].st.length c33]) s.ls (i + 1)) 150) * LinesR (ws ++ [.slice a33 s.ls[i].st.length c33]) (s.ls.take (i + 1))) (fun _ _ h => (h.perm (show _ = F * DevC d bl svs (.slice aa s.arms.length ca) kvs s * pt b3 (cl (dcs b16 s.ls.length s (.slice aa s.arms.length ca)) 97) * pt b16 (cl (cpB (ws ++ [.slice a33 s.ls[i].st.length c33]) s.ls (i + 1)) 150) * LinesR (ws ++ [.slice a33 s.ls[i].st.length c33]) (s.ls.take (i + 1)) * pt b5 (cl [.slice az s.ls[i].st.length cz, .int .i64 s.ls[i].mark] 150) by rw [List.take_succ_eq_append_getElem hi, linesR_snoc (by rw [List.length_take]; omega)]; ac_rfl)).left) ?_
        refine tc_reg ?_
        refine tl_v rfl (by first | exact o_addI rfl rfl (by omega) | exact o_add rfl rfl) ?_
        refine tl_v rfl (o_move (by conv => lhs; whnf)) ?_
        refine tl_nil ?_
        refine q_then_n ?_
        exact ⟨_, by omega, i + 1, ws ++ [.slice a33 s.ls[i].st.length c33], by omega, by simp [hp1], rfl, rfl, rfl, rfl, rfl, rfl, rfl⟩
      · try simp only [decide_eq_true_eq, decide_eq_false_iff_not, Bool.not_eq_true', Bool.not_eq_false', Option.isNone_some, Option.isNone_none, Bool.not_true, Bool.not_false] at h
        refine tc_exit ?_
        refine q_then_e (q_then_e (q_block_x (q_then_n ?_)))
        refine tc_seq ?_
        refine tc_reg ?_
        refine tl_v rfl (o_move (by conv => lhs; whnf)) ?_
        refine tl_v rfl (o_nilCheck rfl) ?_
        refine tl_v rfl (o_fieldAddr (o := 2) Try.underlying97 rfl rfl sz74 rfl) ?_
        obtain rfl : i = s.ls.length := by omega
        rw [cpB_all hp1, List.take_length]
        refine tl_v rfl (o_load p74 rfl (by repeat (first | exact devC_d | apply has_left)) rfl) ?_
        refine tl_c rfl (o_call bd96 rfl (CloneA_c (hr := rs_rd (by repeat (first | exact hrd | apply Rd.left))) (hl := hal) (ho := acs_oneC hk1))) ?_
        rintro _ _ ⟨a43, c43, rfl, hc43, rfl⟩
        refine tl_v rfl (o_fieldAddr (o := 2) Try.underlying97 rfl rfl sz74 rfl) ?_
        refine tl_u rfl (o_stU (l' := dcs b16 s.ls.length s (.slice a43 s.arms.length c43)) rfl (by repeat (first | with_reducible exact upd_here | with_reducible exact upd_pt | apply upd_left)) sz74 rfl rfl (by show 2 < 5; decide) rfl) ?_
        refine tl_nil ?_
        refine q_then_n ?_
        refine tc_seq ?_
        refine tc_reg ?_
        refine tl_v rfl (o_assign (by conv => lhs; whnf)) ?_
        refine tl_nil ?_
        refine q_then_n ?_
        refine tc_ret ?_
        exact ⟨.pointer (some ⟨b3, 0, none⟩), F * Dev d s * Dev b3 s, res1 rfl rfl, fun _ _ h => copy_back hw hsv hp1 hkv h, b3, rfl, rfl⟩


theorem Copy_c {A R : SP} {C : SP → SP} {d : Nat} {s : DevS} (hc : Ct A (Dev d s) R C := by repeat (first | with_reducible exact ct_here | apply ct_left)) : Fn Try.prog 38 #[.pointer (some ⟨d, 0, none⟩)] A (fun r B => ∃ d2, r = .pointer (some ⟨d2, 0, none⟩) ∧ B = A * Dev d2 s) := by
  obtain ⟨rfl, hC⟩ := hc
  exact CopyW_f R

end Go.Vl
