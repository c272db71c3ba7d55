/- vellumlaw08: PmemKeeps. Conditions: none. -/
import Derived.Test.YtimckjnnjakcoaaL8j
import Derived.Test.YtimckjnnjakcoaaL8h
import Derived.Test.YtimckjnnjakcoaaRefA
set_option linter.unusedVariables false
set_option linter.unusedSimpArgs false
namespace Go.Vl
open Go Go.Proofs


theorem plC_keep {F : SP} {p d : Nat} {sv hv lv uv mv : Value} {hvs : List Value} {P : PlS} {g : Gh} {w : World} (h : sat g w (F * PlC p d sv hv lv uv mv hvs P)) :
    sat g w (F * pt p (cl (pcs d sv hv lv uv mv) 46) * Dev d P.s) :=
  (h.perm (show _ = F * pt p (cl (pcs d sv hv lv uv mv) 46) * Dev d P.s * (Words hvs P.held * Sl 1 sv P.seen.length (wds P.seen) * Sl 1 hv P.seen.length hvs * Sl 1 lv P.seen.length (wds P.last) * Sl 1 uv P.seen.length (bos P.sure) * Sl 1 mv P.marks.length (ints P.marks)) by unfold PlC; ac_rfl)).left
theorem plC_marks {F : SP} {p d : Nat} {sv hv lv uv mv : Value} {hvs : List Value} {P : PlS} {g : Gh} {w : World} (hp : 0 < P.marks.length) (h : sat g w (F * PlC p d sv hv lv uv mv hvs P)) :
    ∃ b o c, mv = .slice (some ⟨b, o, none⟩) P.marks.length c := by
  rw [plC_eq] at h
  obtain ⟨b, o, c, e, _⟩ := Foc.have_sl1 (k := 1) (n := P.marks.length) (v := mv) (xs := ints P.marks) (Y := Sl 1 mv P.marks.length (ints P.marks)) (foc_left foc_here) (by omega) h
  exact ⟨b, o, c, e⟩
/-- What each line is to keep. -/
def wantS (kp : List Int) (s : DevS) : List (List Nat) := (goesS kp s).ls.map fun l => lb (seenL l)
theorem wantS_length (kp : List Int) (s : DevS) : (wantS kp s).length = s.ls.length := by simp [wantS, goesS, goPart_length]
theorem goes_at {kp : List Int} {s : DevS} {i : Nat} (h : i < s.ls.length) : (goesS kp s).ls[i]'(by simp [goesS, goPart_length]; exact h) = goL kp i s.ls[i] := by
  simp [goesS, goPart, h]
theorem wantS_at {kp : List Int} {s : DevS} {i : Nat} (hw : WfD s) (h : i < s.ls.length) : (wantS kp s)[i]'(by rw [wantS_length]; exact h) = lb (s.ls[i].st[kOf kp i s.ls[i].st.length]'(kOf_lt (List.length_pos_iff.2 (hw.line _ (List.getElem_mem h)).ne))) := by
  simp only [wantS, List.getElem_map, goes_at h]
  simp only [goL, seenL, List.length_singleton]
  rw [getD_at (kOf_lt (List.length_pos_iff.2 (hw.line _ (List.getElem_mem h)).ne))]; rfl
theorem img_want (kp : List Int) (s : DevS) : imgS (goesS kp s) = (wantS kp s).flatten := by
  simp only [imgS, img, wantS, List.flatMap_def]
theorem ctS_goes {kp : List Int} {s : DevS} {i : Nat} (hw : WfD s) (h : i < s.ls.length) : ctS i (goesS kp s) = [(wantS kp s)[i]'(by rw [wantS_length]; exact h)] := by
  rw [ctS_at (by simp [goesS, goPart_length]; exact h), goes_at h, wantS_at hw h]
  simp only [goL, List.map_cons, List.map_nil]
  rw [getD_at (kOf_lt (List.length_pos_iff.2 (hw.line _ (List.getElem_mem h)).ne))]
section
variable {F : SP} {d : Nat} {s : DevS}
theorem ContentsNoD_f {p : Int} (hp : -9223372036854775808 ≤ p ∧ p ≤ 9223372036854775807) (hno : p < 0 ∨ (s.ls.length : Int) ≤ p) :
    Fn Try.prog 35 #[.pointer (some ⟨d, 0, none⟩), .int .i64 p] (F * Dev d s) (fun r B => r = .slice none 0 0 ∧ F * Dev d s = B) :=
  fn_devR0 fun _ A bl svs av hR => ContentsNo_f A d bl svs av s hR p hp hno
end

set_option maxRecDepth 20000 in
set_option maxHeartbeats 2000000 in
theorem PmemKeepsW_f (F : SP) (lines : Int) (a a2 ak : Option Addr) (c c2 ck n : Nat) (ss : List StepC) (keep kp : List Int) (P : PlS) (hn : n = 1 + wi lines 4) (hPd : P = playL ss (begS n)) (hw : WfD P.s) (hr : Rd F a (scs ss)) (hr2 : Rd F a2 (ints keep)) (hss : ∀ t ∈ ss, t.v < 18446744073709551616) (hl : ss.length + 16 ≤ 2199023255552) (hkl : keep.length ≤ 17592186044416) (hkb : ∀ k ∈ keep, k ≤ 9223372036854775807) (hcase : (lowB keep = true ∧ kp = [] ∧ ak = none ∧ ck = 0) ∨ (lowB keep = false ∧ kp = keep ∧ ak = a2 ∧ ck = c2)) (hrk : Rd F ak (ints kp)) (hkl2 : kp.length ≤ 17592186044416) (hkb2 : ∀ k ∈ kp, 0 ≤ k ∧ k ≤ 9223372036854775807) :
    Fn Try.prog 5 #[.int .i64 lines, .slice a ss.length c, .slice a2 keep.length c2] (F) (fun r B => r = .bool true ∧ B = F) := by
  have hE := @fn_enterW Try.prog 5 Try.f5 _ [.int .i64 lines, .slice a ss.length c, .slice a2 keep.length c2] (F) (fun r B => r = .bool true ∧ B = F) _ Try.func5 rfl Try.ntmps5 (by simp)
  refine hE ?_
  clear hE
  have hwi := wi_lt (p := lines) (show 0 < 4 by omega)
  have hn0 : 0 < n := by omega
  have hn4 : n ≤ 4 := by omega
  have hlowk : lowB kp = false := by
    unfold lowB; rw [List.any_eq_false]; intro x hx; have := hkb2 x hx; simp; omega
  refine tc_seq ?_
  refine tc_reg ?_
  refine tl_v rfl (o_assign rfl) ?_
  refine tl_nil ?_
  refine q_then_n ?_
  refine tc_seq ?_
  refine tc_seq ?_
  refine tc_reg ?_
  refine tl_c rfl (o_call bd25 rfl ((awake_f F).mono (Q' := fun r B => r = .bool true ∧ F = B) fun _ _ h => ⟨h.1, h.2.symm⟩)) ?_
  rintro _ _ ⟨rfl, rfl⟩
  refine tl_v rfl (o_not rfl) ?_
  refine tl_nil ?_
  refine q_then_n ?_
  refine tc_cond rfl (fun h => ?_) (fun h => ?_)
  · (exfalso; first | (revert h; simp; done) | (revert h; simp; omega) | (simp at h; omega) | omega)
  · try simp only [decide_eq_true_eq, decide_eq_false_iff_not, Bool.not_eq_true', Bool.not_eq_false', Option.isNone_some, Option.isNone_none, Bool.not_true, Bool.not_false] at h
    refine tc_skip ?_
    refine q_then_n ?_
    refine tc_seq ?_
    refine tc_reg ?_
    refine tl_v rfl (o_move rfl) ?_
    refine tl_v rfl (o_move rfl) ?_
    refine tl_c rfl (o_call bd26 rfl (begun_f F lines a c n ss hn hr hss hl)) ?_
    rintro u23 _ ⟨p, d, sv, hv, lv, uv, mv, hvs, rfl, rfl⟩
    obtain ⟨hP, hLv⟩ := playL_ok ss (r := 1) (P := begS n) (begS_wf (by omega) (by omega) (by omega)) (begS_live n)
    rw [← hPd] at hP hLv ⊢
    clear hPd
    have hpos := hP.pos
    have htop := hP.top
    have hlsl := hP.ls
    refine tl_have (fun _ _ h => plC_marks hpos h) fun ⟨bm, om, cm, hmv⟩ => ?_
    subst hmv
    refine tl_pre (fun _ _ h => plC_keep h) ?_
    refine tl_v rfl (o_move rfl) ?_
    refine tl_v rfl (o_extract rfl rfl) ?_
    refine tl_v rfl (o_extract rfl rfl) ?_
    refine tl_v rfl (o_assign rfl) ?_
    refine tl_v rfl (o_assign rfl) ?_
    refine tl_nil ?_
    refine q_then_n ?_
    refine tc_seq ?_
    refine tc_seq ?_
    refine tc_reg ?_
    refine tl_v rfl (o_move rfl) ?_
    refine tl_v rfl (o_not rfl) ?_
    refine tl_nil ?_
    refine q_then_n ?_
    refine tc_cond rfl (fun h => ?_) (fun h => ?_)
    · (exfalso; first | (revert h; simp; done) | (revert h; simp; omega) | (simp at h; omega) | omega)
    · try simp only [decide_eq_true_eq, decide_eq_false_iff_not, Bool.not_eq_true', Bool.not_eq_false', Option.isNone_some, Option.isNone_none, Bool.not_true, Bool.not_false] at h
      refine tc_skip ?_
      refine q_then_n ?_
      refine tc_seq ?_
      refine tc_seq ?_
      refine tc_reg ?_
      refine tl_v rfl (o_move rfl) ?_
      refine tl_c rfl (o_call bd30 rfl (good_f _ a2 c2 keep (by repeat (first | exact hr2 | apply Rd.left)) (by omega))) ?_
      rintro _ _ ⟨rfl, rfl⟩
      refine tl_v rfl (o_not rfl) ?_
      refine tl_nil ?_
      refine q_then_n ?_
      refine tc_cond rfl (fun h => ?_) (fun h => ?_)
      · have e2 : Value.slice none 0 0 = .slice ak kp.length ck := by
          rcases hcase with ⟨_, h1, h2, h3⟩ | ⟨h1, _⟩
          · rw [h1, h2, h3]; rfl
          · rw [h1] at h; simp at h
        refine tc_reg ?_
        refine tl_v rfl (o_assign rfl) ?_
        refine tl_nil ?_
        refine q_then_n ?_
        refine tc_seq ?_
        refine tc_reg ?_
        refine tl_env (d := 2) (v := .slice ak kp.length ck) e2 ?_
        refine tl_v rfl (o_move rfl) ?_
        refine tl_v rfl (o_nilCheck rfl) ?_
        refine tl_v rfl (o_fieldAddr (o := 5) Try.underlying46 rfl rfl sz37 rfl) ?_
        refine tl_v rfl (o_load p37 rfl (by repeat (first | exact has_here | exact has_pt | apply has_left)) rfl) ?_
        refine tl_v rfl (o_len Try.underlying37 rfl) ?_
        refine tl_v rfl (o_assign rfl) ?_
        refine tl_nil ?_
        refine q_then_n ?_
        refine tc_seq ?_
        refine tc_reg ?_
        refine tl_v rfl (o_assign rfl) ?_
        refine tl_nil ?_
        refine q_then_n ?_
        refine tc_seq ?_
        refine tc_seq ?_
        refine tc_reg ?_
        refine tl_pre (fun _ _ h => sl_nil (k := 1) h) ?_
        refine tl_eq (A' := F * pt p (cl (pcs d sv hv lv uv (.slice (some ⟨bm, om, none⟩) P.marks.length cm)) 46) * Dev d P.s * Parts [] [] * Sl 1 (.slice none 0 0) 0 []) (by rw [show Parts [] [] = emp from rfl, star_emp]) ?_
        refine tl_v rfl (o_assign rfl) ?_
        refine tl_nil ?_
        refine q_then_n ?_
        refine tc_block ?_
        refine tc_loop (fun kk ρ BB => ∃ (i : Nat) (wv : Value) (ws : List Value), (i ≤ P.marks.length) ∧ (ws.length = i) ∧ kk = P.marks.length - i ∧ ρ 2 = .slice ak kp.length ck ∧ ρ 7 = .pointer (some ⟨p, 0, none⟩) ∧ ρ 9 = .int .i64 (P.marks.length : Nat) ∧ ρ 10 = wv ∧ ρ 11 = .int .i64 (i : Nat) ∧ BB = F * pt p (cl (pcs d sv hv lv uv (.slice (some ⟨bm, om, none⟩) P.marks.length cm)) 46) * Dev d P.s * Parts ws ((wantS kp P.s).take i) * Sl 1 wv i ws) (m := P.marks.length - (0)) ?_ ?_
        · exact ⟨0, .slice none 0 0, [], by omega, rfl, rfl, rfl, rfl, rfl, rfl, rfl, rfl⟩
        · intro k ρ B hI
          obtain ⟨i, wv, ws, hp0, hp1, rfl, hs2, hs7, hs9, hs10, hs11, rfl⟩ := hI
          refine tc_env (d := 2) hs2 ?_
          refine tc_env (d := 7) hs7 ?_
          refine tc_env (d := 9) hs9 ?_
          refine tc_env (d := 10) hs10 ?_
          refine tc_env (d := 11) hs11 ?_
          refine tc_seq ?_
          refine tc_seq ?_
          refine tc_reg ?_
          refine tl_v rfl (o_move rfl) ?_
          refine tl_v rfl (o_move rfl) ?_
          refine tl_v rfl (o_lss rfl rfl) ?_
          refine tl_nil ?_
          refine q_then_n ?_
          refine tc_cond rfl (fun h => ?_) (fun h => ?_)
          · simp only [decide_eq_true_eq] at h
            have hi' : i < P.s.ls.length := by omega
            have hwl := hw.line _ (List.getElem_mem hi')
            have hne := List.length_pos_iff.2 hwl.ne
            have hsm := hwl.small
            have hct := ctS_at hi'
            have hctl : (ctS i P.s).length = P.s.ls[i].st.length := by rw [hct, List.length_map]
            have hk := kOf_lt (keep := kp) (i := i) hne
            refine tc_skip ?_
            refine q_then_n ?_
            refine tc_seq ?_
            refine tc_block ?_
            refine tc_seq ?_
            refine tc_reg ?_
            refine tl_v rfl (o_move rfl) ?_
            refine tl_v rfl (o_nilCheck rfl) ?_
            refine tl_v rfl (o_fieldAddr (o := 0) Try.underlying46 rfl rfl sz41 rfl) ?_
            refine tl_v rfl (o_load p41 rfl (by repeat (first | exact has_here | exact has_pt | apply has_left)) rfl) ?_
            refine tl_v rfl (o_move rfl) ?_
            refine tl_eq (A' := F * pt p (cl (pcs d sv hv lv uv (.slice (some ⟨bm, om, none⟩) P.marks.length cm)) 46) * Parts ws ((wantS kp P.s).take i) * Sl 1 wv i ws * Dev d P.s) (by ac_rfl) ?_
            refine tl_c rfl (o_call bd35 rfl (ContentsD_f (q := i) hi')) ?_
            rintro u46 _ ⟨_, rfl, vs, rfl⟩
            rw [← star_assoc]
            refine tl_have (fun _ _ h => Foc.have_sl1 (k := 1) (n := (ctS i P.s).length) (v := u46) (xs := vs) (Y := Sl 1 u46 (ctS i P.s).length vs) (by repeat (first | exact foc_here | apply foc_left)) (by omega) h) fun ⟨bx, ox, cx, hvx, hcx, hvl⟩ => ?_
            subst hvx
            refine tl_have (fun _ _ h => Foc.parts (hvs := vs) (held := ctS i P.s) (by repeat (first | exact foc_here | apply foc_left)) (by omega) h) fun hpt => ?_
            refine tl_v rfl (o_assign rfl) ?_
            refine tl_nil ?_
            refine q_then_n ?_
            refine tc_seq ?_
            refine tc_seq ?_
            refine tc_reg ?_
            refine tl_v rfl (o_move rfl) ?_
            refine tl_v rfl (o_len Try.underlying33 rfl) ?_
            refine tl_v rfl (o_eqi rfl rfl) ?_
            refine tl_nil ?_
            refine q_then_n ?_
            refine tc_cond rfl (fun h => ?_) (fun h => ?_)
            · exfalso; rw [decide_eq_true_eq] at h; omega
            · try simp only [decide_eq_true_eq, decide_eq_false_iff_not, Bool.not_eq_true', Bool.not_eq_false', Option.isNone_some, Option.isNone_none, Bool.not_true, Bool.not_false] at h
              refine tc_skip ?_
              refine q_then_n ?_
              refine tc_seq ?_
              refine tc_reg ?_
              refine tl_v rfl (o_assign rfl) ?_
              refine tl_nil ?_
              refine q_then_n ?_
              refine tc_seq ?_
              refine tc_seq ?_
              refine tc_reg ?_
              refine tl_v rfl (o_move rfl) ?_
              refine tl_v rfl (o_move rfl) ?_
              refine tl_v rfl (o_len Try.underlying37 rfl) ?_
              refine tl_v rfl (o_lss rfl rfl) ?_
              refine tl_nil ?_
              refine q_then_n ?_
              refine tc_cond rfl (fun h => ?_) (fun h => ?_)
              · simp only [decide_eq_true_eq] at h
                have hik : i < kp.length := by omega
                obtain ⟨bk, ok, rfl, hck⟩ := hrk.some (by rw [ints_length]; omega)
                have hk1 := hck i _ (ints_at hik)
                have hk2 := hkb2 _ (List.getElem_mem hik)
                refine tc_reg ?_
                refine tl_v rfl (o_move rfl) ?_
                refine tl_v rfl (o_move rfl) ?_
                refine tl_v rfl (o_indexAddrN1 (j := i) Try.underlying37 sz3 rfl rfl (by omega)) ?_
                refine tl_v rfl (o_loadC p3 rfl (by repeat (first | exact hk1 | apply Cell.left))) ?_
                refine tl_v rfl (o_move rfl) ?_
                refine tl_v rfl (o_len Try.underlying33 rfl) ?_
                refine tl_v rfl (o_remI (b := (P.s.ls[i].st.length : Int)) rfl (by show Value.int .i64 ((ctS i P.s).length : Int) = _; rw [hctl]) (by omega)) ?_
                refine tl_v rfl (o_assign rfl) ?_
                refine tl_nil ?_
                refine q_then_n ?_
                refine tc_seq ?_
                refine tc_reg ?_
                refine tl_env (d := 13) (v := .int .i64 ((kOf kp i P.s.ls[i].st.length : Nat) : Int)) (by first | (show Value.int .i64 (kp[i] % (P.s.ls[i].st.length : Int)) = _; congr 1; unfold kOf; rw [dif_pos hik, Int.toNat_of_nonneg (Int.emod_nonneg _ (by omega))]) | (show Value.int .i64 0 = _; congr 1; unfold kOf; rw [dif_neg (by simp at h; omega)]; rfl)) ?_
                refine tl_v rfl (o_move rfl) ?_
                refine tl_v rfl (o_move rfl) ?_
                refine tl_v rfl (o_move rfl) ?_
                refine tl_v rfl (o_indexAddrN1 (j := kOf kp i P.s.ls[i].st.length) Try.underlying33 sz28 rfl rfl (by omega)) ?_
                refine tl_v rfl (o_ldSl (i := kOf kp i P.s.ls[i].st.length) (v := vs[kOf kp i P.s.ls[i].st.length]) p28 rfl (by repeat (first | exact foc_here | apply foc_left)) (List.getElem?_eq_getElem (by omega))) ?_
                obtain ⟨RR, hpg, _⟩ := parts_get (vs := vs) (ls := ctS i P.s) (i := kOf kp i P.s.ls[i].st.length) (by omega) (by omega)
                have hw1 := wantS_at (kp := kp) hw hi'
                have hct2 : (ctS i P.s)[kOf kp i P.s.ls[i].st.length]'(by omega) = (wantS kp P.s)[i]'(by rw [wantS_length]; exact hi') := by rw [hw1]; simp only [hct, List.getElem_map]
                rw [hct2] at hpg
                have hq0 : ∃ q, q + 1 = P.s.ls[i].st.length := ⟨P.s.ls[i].st.length - 1, by omega⟩
                obtain ⟨q, hq⟩ := hq0
                obtain ⟨az, cz, hz, hcz, hrz⟩ := hpt q (by omega)
                have hz64 : (ctS i P.s)[q]'(by omega) = lb (seenL P.s.ls[i]) := by
                  simp only [hct, List.getElem_map]; rw [seenL_eq hne]; congr 2; omega
                have h8 := seen8 hwl
                rw [hz64, h8] at hz
                have hW : ((imgS P.s).drop (i * 64)).take 64 = lb (seenL P.s.ls[i]) := by unfold imgS; rw [img_at hw.line hi', List.take_append_of_le_length (by omega), List.take_of_length_le (by omega)]
                rw [hz64] at hrz
                obtain ⟨ay, cy, hy, _, hry⟩ := hpt (kOf kp i P.s.ls[i].st.length) (by omega)
                have hy1 : oneC vs[kOf kp i P.s.ls[i].st.length] = true := by
                  rw [List.getElem?_eq_getElem (by omega)] at hy; rw [Option.some.inj hy]; rfl
                refine tl_x rfl (o_buildSlice1 (v := vs[kOf kp i P.s.ls[i].st.length]) Try.underlying33 sz28 z28 rfl hy1) ?_
                rintro _ _ ⟨b66, rfl, rfl⟩
                refine tl_eq (A' := F * pt p (cl (pcs d sv hv lv uv (.slice (some ⟨bm, om, none⟩) P.marks.length cm)) 46) * Parts ws ((wantS kp P.s).take i) * Dev d P.s * Parts vs (ctS i P.s) * Sl 1 (.slice (some ⟨bx, ox, none⟩) (ctS i P.s).length cx) (ctS i P.s).length vs * Sl 1 wv i ws * pt b66 (cl [vs[kOf kp i P.s.ls[i].st.length]] 28)) (by ac_rfl) ?_
                refine tl_x rfl (o_append1 Try.underlying33 Try.underlying33 sz28 by28 z28 rfl (by decide) (by decide) rfl rfl rfl rfl (by simp [hy1]) (by omega)) ?_
                rintro u67 _ rfl
                refine tl_v rfl (o_assign rfl) ?_
                refine tl_nil ?_
                refine q_then_n ?_
                refine tc_seq ?_
                refine tc_reg ?_
                refine tl_v rfl (o_move rfl) ?_
                refine tl_v rfl (o_nilCheck rfl) ?_
                refine tl_v rfl (o_fieldAddr (o := 0) Try.underlying46 rfl rfl sz41 rfl) ?_
                refine tl_v rfl (o_load p41 rfl (by repeat (first | exact has_here | exact has_pt | apply has_left)) rfl) ?_
                refine tl_v rfl (o_move rfl) ?_
                refine tl_v rfl (o_mulI (a := 64) (b := (i : Nat)) rfl rfl (by omega)) ?_
                refine tl_env (d := 74) (v := .int .i64 ((i * 64 : Nat) : Int)) (by show Value.int .i64 (64 * (i : Int)) = _; congr 1; omega) ?_
                refine tl_eq (A' := F * pt p (cl (pcs d sv hv lv uv (.slice (some ⟨bm, om, none⟩) P.marks.length cm)) 46) * Parts ws ((wantS kp P.s).take i) * Parts vs (ctS i P.s) * Sl 1 (.slice (some ⟨bx, ox, none⟩) (ctS i P.s).length cx) (ctS i P.s).length vs * Sl 1 u67 (i + 1) (ws ++ [vs[kOf kp i P.s.ls[i].st.length]]) * Dev d P.s) (by ac_rfl) ?_
                refine tl_c rfl (o_call bd27 rfl (LoadD_f (p := i * 64) (m := 64) (W := ((imgS P.s).drop (i * 64)).take 64) hLv.off (by omega) rfl)) ?_
                rintro u75 _ ⟨_, rfl, u9, rfl, rfl⟩
                refine tl_have (fun _ _ h => sl_have h) fun ⟨a75, c75, hv75, _, hl75, hr75⟩ => ?_
                subst hv75
                refine tl_v rfl (o_move rfl) ?_
                refine tl_v rfl (o_extract rfl rfl) ?_
                refine tl_v rfl (o_extract rfl rfl) ?_
                refine tl_v rfl (o_assign rfl) ?_
                refine tl_v rfl (o_assign rfl) ?_
                refine tl_nil ?_
                refine q_then_n ?_
                refine tc_seq ?_
                refine tc_reg ?_
                refine tl_v rfl (o_move rfl) ?_
                refine tl_v rfl (o_nei rfl rfl) ?_
                refine tl_v rfl (o_move rfl) ?_
                refine tl_bool (d := 80) rfl (fun h => ?_) (fun h => ?_)
                · exfalso; simp at h
                · try simp only [decide_eq_true_eq, decide_eq_false_iff_not, Bool.not_eq_true', Bool.not_eq_false', Option.isNone_some, Option.isNone_none, Bool.not_true, Bool.not_false] at h
                  refine tl_v rfl (o_move rfl) ?_
                  refine tl_v rfl (o_move rfl) ?_
                  refine tl_v rfl (o_move rfl) ?_
                  refine tl_v rfl (o_len Try.underlying33 rfl) ?_
                  refine tl_v rfl (o_subI (a := ((ctS i P.s).length : Int)) (b := 1) rfl rfl (by omega)) ?_
                  refine tl_env (d := 85) (v := .int .i64 ((q : Nat) : Int)) (by show Value.int .i64 (((ctS i P.s).length : Int) - 1) = _; rw [hctl, ← hq]; congr 1; omega) ?_
                  refine tl_v rfl (o_indexAddrN1 (j := q) Try.underlying33 sz28 rfl rfl (by omega)) ?_
                  refine tl_v rfl (o_ldSl (i := q) p28 rfl (by repeat (first | exact foc_here | apply foc_left)) hz) ?_
                  refine tl_c rfl (o_call bd22 rfl (EqBytesN_f _ a75 az c75 cz 64 64 (((imgS P.s).drop (i * 64)).take 64) (lb (seenL P.s.ls[i])) hr75 (by repeat (first | exact hrz | exact Rd.right hrz | apply Rd.left)) (by rw [hW, h8]) h8 (by omega) (by omega))) ?_
                  rintro _ _ ⟨rfl, rfl⟩
                  refine tl_v rfl (o_not rfl) ?_
                  refine tl_v rfl (by first | exact o_pick_t rfl rfl | exact o_pick_f rfl rfl | exact o_pick rfl rfl) ?_
                  refine tl_nil ?_
                  refine q_then_n ?_
                  refine tc_cond rfl (fun h => ?_) (fun h => ?_)
                  · exfalso; rw [hW] at h; simp at h
                  · try simp only [decide_eq_true_eq, decide_eq_false_iff_not, Bool.not_eq_true', Bool.not_eq_false', Option.isNone_some, Option.isNone_none, Bool.not_true, Bool.not_false] at h
                    refine tc_skip ?_
                    refine q_block_n (q_then_n ?_)
                    refine tc_reg ?_
                    refine tl_pre (fun _ _ h => (h.perm (show _ = F * pt p (cl (pcs d sv hv lv uv (.slice (some ⟨bm, om, none⟩) P.marks.length cm)) 46) * Dev d P.s * Parts (ws ++ [vs[kOf kp i P.s.ls[i].st.length]]) ((wantS kp P.s).take (i + 1)) * Sl 1 u67 (i + 1) (ws ++ [vs[kOf kp i P.s.ls[i].st.length]]) * (RR * Sl 1 (.slice (some ⟨bx, ox, none⟩) (ctS i P.s).length cx) (ctS i P.s).length vs * Sl 1 (.slice a75 64 c75) 64 (bys (((imgS P.s).drop (i * 64)).take 64))) by rw [hpg, List.take_succ_eq_append_getElem (l := wantS kp P.s) (i := i) (by rw [wantS_length]; exact hi'), parts_snoc (by rw [hp1, List.length_take, wantS_length]; omega)]; ac_rfl)).left) ?_
                    refine tl_v rfl (o_move rfl) ?_
                    refine tl_v rfl (by first | exact o_addI rfl rfl (by omega) | exact o_add rfl rfl) ?_
                    refine tl_v rfl (o_assign rfl) ?_
                    refine tl_nil ?_
                    refine q_then_n ?_
                    exact ⟨_, by omega, i + 1, _, ws ++ [vs[kOf kp i P.s.ls[i].st.length]], by omega, by simp [hp1], rfl, rfl, rfl, rfl, rfl, rfl, rfl⟩
              · try simp only [decide_eq_true_eq, decide_eq_false_iff_not, Bool.not_eq_true', Bool.not_eq_false', Option.isNone_some, Option.isNone_none, Bool.not_true, Bool.not_false] at h
                refine tc_skip ?_
                refine q_then_n ?_
                refine tc_seq ?_
                refine tc_reg ?_
                refine tl_env (d := 13) (v := .int .i64 ((kOf kp i P.s.ls[i].st.length : Nat) : Int)) (by first | (show Value.int .i64 (kp[i] % (P.s.ls[i].st.length : Int)) = _; congr 1; unfold kOf; rw [dif_pos hik, Int.toNat_of_nonneg (Int.emod_nonneg _ (by omega))]) | (show Value.int .i64 0 = _; congr 1; unfold kOf; rw [dif_neg (by simp at h; omega)]; rfl)) ?_
                refine tl_v rfl (o_move rfl) ?_
                refine tl_v rfl (o_move rfl) ?_
                refine tl_v rfl (o_move rfl) ?_
                refine tl_v rfl (o_indexAddrN1 (j := kOf kp i P.s.ls[i].st.length) Try.underlying33 sz28 rfl rfl (by omega)) ?_
                refine tl_v rfl (o_ldSl (i := kOf kp i P.s.ls[i].st.length) (v := vs[kOf kp i P.s.ls[i].st.length]) p28 rfl (by repeat (first | exact foc_here | apply foc_left)) (List.getElem?_eq_getElem (by omega))) ?_
                obtain ⟨RR, hpg, _⟩ := parts_get (vs := vs) (ls := ctS i P.s) (i := kOf kp i P.s.ls[i].st.length) (by omega) (by omega)
                have hw1 := wantS_at (kp := kp) hw hi'
                have hct2 : (ctS i P.s)[kOf kp i P.s.ls[i].st.length]'(by omega) = (wantS kp P.s)[i]'(by rw [wantS_length]; exact hi') := by rw [hw1]; simp only [hct, List.getElem_map]
                rw [hct2] at hpg
                have hq0 : ∃ q, q + 1 = P.s.ls[i].st.length := ⟨P.s.ls[i].st.length - 1, by omega⟩
                obtain ⟨q, hq⟩ := hq0
                obtain ⟨az, cz, hz, hcz, hrz⟩ := hpt q (by omega)
                have hz64 : (ctS i P.s)[q]'(by omega) = lb (seenL P.s.ls[i]) := by
                  simp only [hct, List.getElem_map]; rw [seenL_eq hne]; congr 2; omega
                have h8 := seen8 hwl
                rw [hz64, h8] at hz
                have hW : ((imgS P.s).drop (i * 64)).take 64 = lb (seenL P.s.ls[i]) := by unfold imgS; rw [img_at hw.line hi', List.take_append_of_le_length (by omega), List.take_of_length_le (by omega)]
                rw [hz64] at hrz
                obtain ⟨ay, cy, hy, _, hry⟩ := hpt (kOf kp i P.s.ls[i].st.length) (by omega)
                have hy1 : oneC vs[kOf kp i P.s.ls[i].st.length] = true := by
                  rw [List.getElem?_eq_getElem (by omega)] at hy; rw [Option.some.inj hy]; rfl
                refine tl_x rfl (o_buildSlice1 (v := vs[kOf kp i P.s.ls[i].st.length]) Try.underlying33 sz28 z28 rfl hy1) ?_
                rintro _ _ ⟨b66, rfl, rfl⟩
                refine tl_eq (A' := F * pt p (cl (pcs d sv hv lv uv (.slice (some ⟨bm, om, none⟩) P.marks.length cm)) 46) * Parts ws ((wantS kp P.s).take i) * Dev d P.s * Parts vs (ctS i P.s) * Sl 1 (.slice (some ⟨bx, ox, none⟩) (ctS i P.s).length cx) (ctS i P.s).length vs * Sl 1 wv i ws * pt b66 (cl [vs[kOf kp i P.s.ls[i].st.length]] 28)) (by ac_rfl) ?_
                refine tl_x rfl (o_append1 Try.underlying33 Try.underlying33 sz28 by28 z28 rfl (by decide) (by decide) rfl rfl rfl rfl (by simp [hy1]) (by omega)) ?_
                rintro u67 _ rfl
                refine tl_v rfl (o_assign rfl) ?_
                refine tl_nil ?_
                refine q_then_n ?_
                refine tc_seq ?_
                refine tc_reg ?_
                refine tl_v rfl (o_move rfl) ?_
                refine tl_v rfl (o_nilCheck rfl) ?_
                refine tl_v rfl (o_fieldAddr (o := 0) Try.underlying46 rfl rfl sz41 rfl) ?_
                refine tl_v rfl (o_load p41 rfl (by repeat (first | exact has_here | exact has_pt | apply has_left)) rfl) ?_
                refine tl_v rfl (o_move rfl) ?_
                refine tl_v rfl (o_mulI (a := 64) (b := (i : Nat)) rfl rfl (by omega)) ?_
                refine tl_env (d := 74) (v := .int .i64 ((i * 64 : Nat) : Int)) (by show Value.int .i64 (64 * (i : Int)) = _; congr 1; omega) ?_
                refine tl_eq (A' := F * pt p (cl (pcs d sv hv lv uv (.slice (some ⟨bm, om, none⟩) P.marks.length cm)) 46) * Parts ws ((wantS kp P.s).take i) * Parts vs (ctS i P.s) * Sl 1 (.slice (some ⟨bx, ox, none⟩) (ctS i P.s).length cx) (ctS i P.s).length vs * Sl 1 u67 (i + 1) (ws ++ [vs[kOf kp i P.s.ls[i].st.length]]) * Dev d P.s) (by ac_rfl) ?_
                refine tl_c rfl (o_call bd27 rfl (LoadD_f (p := i * 64) (m := 64) (W := ((imgS P.s).drop (i * 64)).take 64) hLv.off (by omega) rfl)) ?_
                rintro u75 _ ⟨_, rfl, u9, rfl, rfl⟩
                refine tl_have (fun _ _ h => sl_have h) fun ⟨a75, c75, hv75, _, hl75, hr75⟩ => ?_
                subst hv75
                refine tl_v rfl (o_move rfl) ?_
                refine tl_v rfl (o_extract rfl rfl) ?_
                refine tl_v rfl (o_extract rfl rfl) ?_
                refine tl_v rfl (o_assign rfl) ?_
                refine tl_v rfl (o_assign rfl) ?_
                refine tl_nil ?_
                refine q_then_n ?_
                refine tc_seq ?_
                refine tc_reg ?_
                refine tl_v rfl (o_move rfl) ?_
                refine tl_v rfl (o_nei rfl rfl) ?_
                refine tl_v rfl (o_move rfl) ?_
                refine tl_bool (d := 80) rfl (fun h => ?_) (fun h => ?_)
                · exfalso; simp at h
                · try simp only [decide_eq_true_eq, decide_eq_false_iff_not, Bool.not_eq_true', Bool.not_eq_false', Option.isNone_some, Option.isNone_none, Bool.not_true, Bool.not_false] at h
                  refine tl_v rfl (o_move rfl) ?_
                  refine tl_v rfl (o_move rfl) ?_
                  refine tl_v rfl (o_move rfl) ?_
                  refine tl_v rfl (o_len Try.underlying33 rfl) ?_
                  refine tl_v rfl (o_subI (a := ((ctS i P.s).length : Int)) (b := 1) rfl rfl (by omega)) ?_
                  refine tl_env (d := 85) (v := .int .i64 ((q : Nat) : Int)) (by show Value.int .i64 (((ctS i P.s).length : Int) - 1) = _; rw [hctl, ← hq]; congr 1; omega) ?_
                  refine tl_v rfl (o_indexAddrN1 (j := q) Try.underlying33 sz28 rfl rfl (by omega)) ?_
                  refine tl_v rfl (o_ldSl (i := q) p28 rfl (by repeat (first | exact foc_here | apply foc_left)) hz) ?_
                  refine tl_c rfl (o_call bd22 rfl (EqBytesN_f _ a75 az c75 cz 64 64 (((imgS P.s).drop (i * 64)).take 64) (lb (seenL P.s.ls[i])) hr75 (by repeat (first | exact hrz | exact Rd.right hrz | apply Rd.left)) (by rw [hW, h8]) h8 (by omega) (by omega))) ?_
                  rintro _ _ ⟨rfl, rfl⟩
                  refine tl_v rfl (o_not rfl) ?_
                  refine tl_v rfl (by first | exact o_pick_t rfl rfl | exact o_pick_f rfl rfl | exact o_pick rfl rfl) ?_
                  refine tl_nil ?_
                  refine q_then_n ?_
                  refine tc_cond rfl (fun h => ?_) (fun h => ?_)
                  · exfalso; rw [hW] at h; simp at h
                  · try simp only [decide_eq_true_eq, decide_eq_false_iff_not, Bool.not_eq_true', Bool.not_eq_false', Option.isNone_some, Option.isNone_none, Bool.not_true, Bool.not_false] at h
                    refine tc_skip ?_
                    refine q_block_n (q_then_n ?_)
                    refine tc_reg ?_
                    refine tl_pre (fun _ _ h => (h.perm (show _ = F * pt p (cl (pcs d sv hv lv uv (.slice (some ⟨bm, om, none⟩) P.marks.length cm)) 46) * Dev d P.s * Parts (ws ++ [vs[kOf kp i P.s.ls[i].st.length]]) ((wantS kp P.s).take (i + 1)) * Sl 1 u67 (i + 1) (ws ++ [vs[kOf kp i P.s.ls[i].st.length]]) * (RR * Sl 1 (.slice (some ⟨bx, ox, none⟩) (ctS i P.s).length cx) (ctS i P.s).length vs * Sl 1 (.slice a75 64 c75) 64 (bys (((imgS P.s).drop (i * 64)).take 64))) by rw [hpg, List.take_succ_eq_append_getElem (l := wantS kp P.s) (i := i) (by rw [wantS_length]; exact hi'), parts_snoc (by rw [hp1, List.length_take, wantS_length]; omega)]; ac_rfl)).left) ?_
                    refine tl_v rfl (o_move rfl) ?_
                    refine tl_v rfl (by first | exact o_addI rfl rfl (by omega) | exact o_add rfl rfl) ?_
                    refine tl_v rfl (o_assign rfl) ?_
                    refine tl_nil ?_
                    refine q_then_n ?_
                    exact ⟨_, by omega, i + 1, _, ws ++ [vs[kOf kp i P.s.ls[i].st.length]], by omega, by simp [hp1], rfl, rfl, rfl, rfl, rfl, rfl, rfl⟩
          · simp only [decide_eq_false_iff_not] at h
            obtain rfl : i = P.marks.length := by omega
            have hwl0 : (wantS kp P.s).take P.marks.length = wantS kp P.s := List.take_of_length_le (by rw [wantS_length]; omega)
            rw [hwl0]
            refine tc_exit ?_
            refine q_then_e (q_then_e (q_block_x (q_then_n ?_)))
            refine tc_seq ?_
            refine tc_seq ?_
            refine tc_cut (fun ρ A => ρ 7 = .pointer (some ⟨p, 0, none⟩) ∧ ρ 9 = .int .i64 (P.marks.length : Nat) ∧ ρ 10 = wv ∧ ρ 98 = .bool false ∧ A = F * pt p (cl (pcs d sv hv lv uv (.slice (some ⟨bm, om, none⟩) P.marks.length cm)) 46) * Parts ws (wantS kp P.s) * Sl 1 wv P.marks.length ws * Dev d (goesS kp P.s)) ?_ ?_
            · skip
              refine tc_rega mo ?_
              show TA _ _ _ _ 8 #[false, false, false, false, false, false, false, false] _ _
              refine ta_pure (i := 0) (listed' := #[true, false, false, false, false, false, false, false]) rfl (by kernel_rfl) (by kernel_rfl) (by kernel_rfl) rfl rfl (o_move rfl) ?_
              refine ta_pure (i := 1) (listed' := #[true, true, false, false, false, false, false, false]) rfl (by kernel_rfl) (by kernel_rfl) (by kernel_rfl) rfl rfl (o_nilCheck rfl) ?_
              refine ta_pure (i := 2) (listed' := #[true, true, true, false, false, false, false, false]) rfl (by kernel_rfl) (by kernel_rfl) (by kernel_rfl) rfl rfl (o_fieldAddr (o := 0) Try.underlying46 rfl rfl sz41 rfl) ?_
              refine ta_pure (i := 4) (listed' := #[true, true, true, false, true, false, false, false]) rfl (by kernel_rfl) (by kernel_rfl) (by kernel_rfl) rfl rfl (o_move rfl) ?_
              refine ta_two (i := 3) (j := 5) (by kernel_rfl) ?_ ?_
              · skip
                refine oa_v (i := 3) (listed' := #[true, true, true, true, true, false, false, false]) rfl rfl rfl (o_load p41 rfl (by repeat (first | exact has_here | exact has_pt | apply has_left)) rfl) ?_
                refine ta_one (i := 5) (by kernel_rfl) ?_
                refine oa_c (i := 5) (listed' := #[true, true, true, true, true, true, false, false]) rfl rfl rfl (o_call bd29 rfl (CopyInts_f _ ak ck kp (by repeat (first | exact hrk | apply Rd.left)) hkl2)) ?_
                rintro u96 _ rfl
                refine ta_eq (A' := F * pt p (cl (pcs d sv hv lv uv (.slice (some ⟨bm, om, none⟩) P.marks.length cm)) 46) * Parts ws (wantS kp P.s) * Sl 1 wv P.marks.length ws * Sl 1 u96 kp.length (ints kp) * Dev d P.s) (by ac_rfl) ?_
                refine ta_have (fun _ _ h => sl_have h.left) fun ⟨a96, c96, hv96, _, _, hr96⟩ => ?_
                subst hv96
                refine ta_one (i := 6) (by kernel_rfl) ?_
                refine oa_c (i := 6) (listed' := #[true, true, true, true, true, true, true, false]) rfl rfl rfl (o_call bd28 rfl (Crash_f _ d c96 P.s a96 kp hr96 (fun k hk => (hkb2 k hk).2) hkl2)) ?_
                rintro _ _ ⟨rfl, rfl⟩
                rw [if_neg (show ¬ P.s.off = true by rw [hLv.off]; decide), if_neg (show ¬ P.s.off = true by rw [hLv.off]; decide), if_neg (show ¬ lowB kp = true by rw [hlowk]; decide), if_neg (show ¬ lowB kp = true by rw [hlowk]; decide)]
                refine ta_pre (fun _ _ h => (h.perm (show _ = F * pt p (cl (pcs d sv hv lv uv (.slice (some ⟨bm, om, none⟩) P.marks.length cm)) 46) * Parts ws (wantS kp P.s) * Sl 1 wv P.marks.length ws * Dev d (goesS kp P.s) * (Sl 1 (.slice a96 kp.length c96) kp.length (ints kp)) by ac_rfl)).left) ?_
                refine ta_pure (i := 7) (listed' := #[true, true, true, true, true, true, true, true]) rfl (by kernel_rfl) (by kernel_rfl) (by kernel_rfl) rfl rfl (o_nei rfl rfl) ?_
                refine ta_done (by kernel_rfl) ?_
                exact ⟨rfl, rfl, rfl, rfl, rfl⟩
              · skip
                refine oa_c (i := 5) (listed' := #[true, true, true, false, true, true, false, false]) rfl rfl rfl (o_call bd29 rfl (CopyInts_f _ ak ck kp (by repeat (first | exact hrk | apply Rd.left)) hkl2)) ?_
                rintro u96 _ rfl
                refine ta_eq (A' := F * pt p (cl (pcs d sv hv lv uv (.slice (some ⟨bm, om, none⟩) P.marks.length cm)) 46) * Parts ws (wantS kp P.s) * Sl 1 wv P.marks.length ws * Sl 1 u96 kp.length (ints kp) * Dev d P.s) (by ac_rfl) ?_
                refine ta_have (fun _ _ h => sl_have h.left) fun ⟨a96, c96, hv96, _, _, hr96⟩ => ?_
                subst hv96
                refine ta_one (i := 3) (by kernel_rfl) ?_
                refine oa_v (i := 3) (listed' := #[true, true, true, true, true, true, false, false]) rfl rfl rfl (o_load p41 rfl (by repeat (first | exact has_here | exact has_pt | apply has_left)) rfl) ?_
                refine ta_one (i := 6) (by kernel_rfl) ?_
                refine oa_c (i := 6) (listed' := #[true, true, true, true, true, true, true, false]) rfl rfl rfl (o_call bd28 rfl (Crash_f _ d c96 P.s a96 kp hr96 (fun k hk => (hkb2 k hk).2) hkl2)) ?_
                rintro _ _ ⟨rfl, rfl⟩
                rw [if_neg (show ¬ P.s.off = true by rw [hLv.off]; decide), if_neg (show ¬ P.s.off = true by rw [hLv.off]; decide), if_neg (show ¬ lowB kp = true by rw [hlowk]; decide), if_neg (show ¬ lowB kp = true by rw [hlowk]; decide)]
                refine ta_pre (fun _ _ h => (h.perm (show _ = F * pt p (cl (pcs d sv hv lv uv (.slice (some ⟨bm, om, none⟩) P.marks.length cm)) 46) * Parts ws (wantS kp P.s) * Sl 1 wv P.marks.length ws * Dev d (goesS kp P.s) * (Sl 1 (.slice a96 kp.length c96) kp.length (ints kp)) by ac_rfl)).left) ?_
                refine ta_pure (i := 7) (listed' := #[true, true, true, true, true, true, true, true]) rfl (by kernel_rfl) (by kernel_rfl) (by kernel_rfl) rfl rfl (o_nei rfl rfl) ?_
                refine ta_done (by kernel_rfl) ?_
                exact ⟨rfl, rfl, rfl, rfl, rfl⟩
            · intro ρ A hI
              obtain ⟨h7, h9, h10, h98, rfl⟩ := hI
              refine q_then_n ?_
              refine tc_env (d := 7) h7 ?_
              refine tc_env (d := 9) h9 ?_
              refine tc_env (d := 10) h10 ?_
              refine tc_env (d := 98) h98 ?_
              refine tc_cond rfl (fun h => ?_) (fun h => ?_)
              · exfalso; simp at h
              · try simp only [decide_eq_true_eq, decide_eq_false_iff_not, Bool.not_eq_true', Bool.not_eq_false', Option.isNone_some, Option.isNone_none, Bool.not_true, Bool.not_false] at h
                refine tc_skip ?_
                refine q_then_n ?_
                refine tc_seq ?_
                refine tc_seq ?_
                refine tc_reg ?_
                have hwl2 : WfD (goesS kp P.s) := goesS_wf hw
                have hls2 : (goesS kp P.s).ls.length = P.marks.length := by simp [goesS, goPart_length]; omega
                have hwln : (wantS kp P.s).length = P.marks.length := by rw [wantS_length]; omega
                refine tl_have (fun _ _ h => Foc.have_sl1 (k := 1) (n := P.marks.length) (v := wv) (xs := ws) (Y := Sl 1 wv P.marks.length ws) (by repeat (first | exact foc_here | apply foc_left)) (by omega) h) fun ⟨bw, ow, cw, hvw, _, hvlw⟩ => ?_
                subst hvw
                refine tl_have (fun _ _ h => Foc.parts (hvs := ws) (held := wantS kp P.s) (by repeat (first | exact foc_here | apply foc_left)) (by omega) h) fun hpw => ?_
                refine tl_v rfl (o_assign rfl) ?_
                refine tl_nil ?_
                refine q_then_n ?_
                refine tc_block ?_
                refine tc_loop (fun kk ρ BB => ∃ (i : Nat), (i ≤ P.marks.length) ∧ kk = P.marks.length - i ∧ ρ 7 = .pointer (some ⟨p, 0, none⟩) ∧ ρ 9 = .int .i64 (P.marks.length : Nat) ∧ ρ 10 = .slice (some ⟨bw, ow, none⟩) P.marks.length cw ∧ ρ 16 = .int .i64 (i : Nat) ∧ BB = F * pt p (cl (pcs d sv hv lv uv (.slice (some ⟨bm, om, none⟩) P.marks.length cm)) 46) * Parts ws (wantS kp P.s) * Sl 1 (.slice (some ⟨bw, ow, none⟩) P.marks.length cw) P.marks.length ws * Dev d (goesS kp P.s)) (m := P.marks.length - (0)) ?_ ?_
                · exact ⟨0, by omega, rfl, rfl, rfl, rfl, rfl, rfl⟩
                · intro k ρ B hI
                  obtain ⟨i, hp0, rfl, hs7, hs9, hs10, hs16, rfl⟩ := hI
                  refine tc_env (d := 7) hs7 ?_
                  refine tc_env (d := 9) hs9 ?_
                  refine tc_env (d := 10) hs10 ?_
                  refine tc_env (d := 16) hs16 ?_
                  refine tc_seq ?_
                  refine tc_seq ?_
                  refine tc_reg ?_
                  refine tl_v rfl (o_move rfl) ?_
                  refine tl_v rfl (o_move rfl) ?_
                  refine tl_v rfl (o_lss rfl rfl) ?_
                  refine tl_nil ?_
                  refine q_then_n ?_
                  refine tc_cond rfl (fun h => ?_) (fun h => ?_)
                  · simp only [decide_eq_true_eq] at h
                    have hi' : i < P.s.ls.length := by omega
                    have hct := ctS_goes (kp := kp) hw hi'
                    have hctl : (ctS i (goesS kp P.s)).length = 1 := by rw [hct]; rfl
                    obtain ⟨aw, cw2, hzw, hcw2, hrw⟩ := hpw i (by omega)
                    refine tc_skip ?_
                    refine q_then_n ?_
                    refine tc_seq ?_
                    refine tc_block ?_
                    refine tc_seq ?_
                    refine tc_reg ?_
                    refine tl_v rfl (o_move rfl) ?_
                    refine tl_v rfl (o_nilCheck rfl) ?_
                    refine tl_v rfl (o_fieldAddr (o := 0) Try.underlying46 rfl rfl sz41 rfl) ?_
                    refine tl_v rfl (o_load p41 rfl (by repeat (first | exact has_here | exact has_pt | apply has_left)) rfl) ?_
                    refine tl_v rfl (o_move rfl) ?_
                    refine tl_c rfl (o_call bd35 rfl (ContentsD_f (q := i) (by omega))) ?_
                    rintro u109 _ ⟨_, rfl, vs, rfl⟩
                    rw [← star_assoc, hctl, hct]
                    refine tl_have (fun _ _ h => Foc.have_sl1 (k := 1) (n := 1) (v := u109) (xs := vs) (Y := Sl 1 u109 1 vs) (by repeat (first | exact foc_here | apply foc_left)) (by omega) h) fun ⟨bx, ox, cx, hvx, hcx, hvl⟩ => ?_
                    subst hvx
                    refine tl_have (fun _ _ h => Foc.parts (hvs := vs) (held := [(wantS kp P.s)[i]'(by rw [wantS_length]; exact hi')]) (by repeat (first | exact foc_here | apply foc_left)) (by simpa using hvl) h) fun hpt => ?_
                    obtain ⟨az, cz, hz, hcz, hrz⟩ := hpt 0 (by simp)
                    simp only [List.getElem_cons_zero] at hz hrz hcz
                    have hlz : (wantS kp P.s)[i].length = 64 := by rw [wantS_at hw hi', lb_length, (hw.line _ (List.getElem_mem hi')).eight _ (List.getElem_mem _)]
                    refine tl_v rfl (o_assign rfl) ?_
                    refine tl_nil ?_
                    refine q_then_n ?_
                    refine tc_seq ?_
                    refine tc_regq mo (by kernel_rfl) ?_
                    refine ql_v rfl (o_move rfl) ?_
                    refine ql_v rfl (o_len Try.underlying33 rfl) ?_
                    refine ql_v rfl (o_nei rfl rfl) ?_
                    refine ql_v rfl (o_move rfl) ?_
                    refine ql_bool (d := 113) rfl (fun h => ?_) (fun h => ?_)
                    · exfalso; simp at h
                    · try simp only [decide_eq_true_eq, decide_eq_false_iff_not, Bool.not_eq_true', Bool.not_eq_false', Option.isNone_some, Option.isNone_none, Bool.not_true, Bool.not_false] at h
                      refine ql_v rfl (o_move rfl) ?_
                      refine ql_v rfl (o_indexAddrN1 (j := 0) Try.underlying33 sz28 rfl rfl (by omega)) ?_
                      refine ql_v rfl (o_ldSl (i := 0) p28 rfl (by repeat (first | exact foc_here | apply foc_left)) hz) ?_
                      refine ql_v rfl (o_move rfl) ?_
                      refine ql_v rfl (o_move rfl) ?_
                      refine ql_v rfl (o_indexAddrN1 (j := i) Try.underlying33 sz28 rfl rfl (by omega)) ?_
                      refine ql_v rfl (o_ldSl (i := i) p28 rfl (by repeat (first | exact foc_here | apply foc_left)) hzw) ?_
                      refine ql_c rfl (fun w => exec_call bd22 rfl) (EqBytes_f _ az aw cz cw2 ((wantS kp P.s)[i]'(by rw [wantS_length]; exact hi')) ((wantS kp P.s)[i]'(by rw [wantS_length]; exact hi')) (by repeat (first | exact hrz | exact Rd.right hrz | apply Rd.left)) (by repeat (first | exact hrw | exact Rd.right hrw | apply Rd.left)) (by omega) (by omega)) ?_
                      refine ql_v rfl (o_not rfl) ?_
                      refine ql_v rfl (by first | exact o_pick_t rfl rfl | exact o_pick_f rfl rfl | exact o_pick rfl rfl) ?_
                      refine ql_nil ?_
                      refine q_then_n ?_
                      refine tc_cond rfl (fun h => ?_) (fun h => ?_)
                      · exfalso; simp at h
                      · try simp only [decide_eq_true_eq, decide_eq_false_iff_not, Bool.not_eq_true', Bool.not_eq_false', Option.isNone_some, Option.isNone_none, Bool.not_true, Bool.not_false] at h
                        refine tc_skip ?_
                        refine q_block_n (q_then_n ?_)
                        refine tc_reg ?_
                        refine tl_pre (fun _ _ h => h.left.left) ?_
                        refine tl_v rfl (o_move rfl) ?_
                        refine tl_v rfl (by first | exact o_addI rfl rfl (by omega) | exact o_add rfl rfl) ?_
                        refine tl_v rfl (o_assign rfl) ?_
                        refine tl_nil ?_
                        refine q_then_n ?_
                        exact ⟨_, by omega, i + 1, by omega, rfl, rfl, rfl, rfl, rfl, rfl⟩
                  · simp only [decide_eq_false_iff_not] at h
                    refine tc_exit ?_
                    refine q_then_e (q_then_e (q_block_x (q_then_n ?_)))
                    refine tc_seq ?_
                    refine tc_reg ?_
                    refine tl_v rfl (o_move rfl) ?_
                    refine tl_v rfl (o_nilCheck rfl) ?_
                    refine tl_v rfl (o_fieldAddr (o := 0) Try.underlying46 rfl rfl sz41 rfl) ?_
                    refine tl_v rfl (o_load p41 rfl (by repeat (first | exact has_here | exact has_pt | apply has_left)) rfl) ?_
                    refine tl_c rfl (o_call bd33 rfl (ImageD_f)) ?_
                    rintro u128 _ ⟨_, rfl, rfl⟩
                    refine tl_have (fun _ _ h => sl_have h) fun ⟨ai, ci, hvi, _, hli, hri⟩ => ?_
                    subst hvi
                    refine tl_have (fun _ _ h => rows_of (v := .slice (some ⟨bw, ow, none⟩) P.marks.length cw) (vs := ws) (ls := wantS kp P.s) (by rw [hwln]; exact (by repeat (first | exact foc_here | apply foc_left))) (by repeat (first | exact foc_here | apply foc_left)) h) fun ⟨ar, cr, hvr, _, _, hrr⟩ => ?_
                    rw [hwln] at hvr
                    simp only [Value.slice.injEq, true_and] at hvr
                    obtain ⟨rfl, rfl⟩ := hvr
                    have hil : (imgS (goesS kp P.s)).length = (goesS kp P.s).ls.length * 64 := img_length hwl2.line
                    have hfl : (wantS kp P.s).flatten.length = (goesS kp P.s).ls.length * 64 := by rw [← img_want]; exact hil
                    refine tl_v rfl (o_move rfl) ?_
                    refine tl_c rfl (o_call bd36 rfl (JoinN_f _ (some ⟨bw, ow, none⟩) cw P.marks.length (wantS kp P.s) hrr (by omega) (by omega) hwln)) ?_
                    rintro u130 _ rfl
                    refine tl_have (fun _ _ h => sl_have h) fun ⟨aj, cj, hvj, _, hlj, hrj⟩ => ?_
                    subst hvj
                    refine tl_c rfl (o_call bd22 rfl (EqBytesN_f _ ai aj ci cj _ _ (imgS (goesS kp P.s)) (wantS kp P.s).flatten (by repeat (first | exact hri | apply Rd.left)) (by repeat (first | exact hrj | apply Rd.left)) hil rfl (by omega) (by omega))) ?_
                    rintro _ _ ⟨rfl, rfl⟩
                    refine tl_v rfl (o_move rfl) ?_
                    refine tl_bool (d := 132) rfl (fun h => ?_) (fun h => ?_)
                    · try simp only [decide_eq_true_eq, decide_eq_false_iff_not, Bool.not_eq_true', Bool.not_eq_false', Option.isNone_some, Option.isNone_none, Bool.not_true, Bool.not_false] at h
                      refine tl_v rfl (o_move rfl) ?_
                      refine tl_v rfl (o_nilCheck rfl) ?_
                      refine tl_v rfl (o_fieldAddr (o := 0) Try.underlying46 rfl rfl sz41 rfl) ?_
                      refine tl_v rfl (o_load p41 rfl (by repeat (first | exact has_here | exact has_pt | apply has_left)) rfl) ?_
                      refine tl_v rfl (o_move rfl) ?_
                      refine tl_pre (fun _ _ h => h.left.left) ?_
                      refine tl_c rfl (o_call bd35 rfl (ContentsNoD_f (p := (P.marks.length : Nat)) (by omega) (by omega))) ?_
                      rintro _ _ ⟨rfl, rfl⟩
                      refine tl_v rfl (o_len Try.underlying33 rfl) ?_
                      refine tl_v rfl (o_eqi rfl rfl) ?_
                      refine tl_v rfl (by first | exact o_pick_t rfl rfl | exact o_pick_f rfl rfl | exact o_pick rfl rfl) ?_
                      refine tl_v rfl (o_move rfl) ?_
                      refine tl_bool (d := 142) rfl (fun h => ?_) (fun h => ?_)
                      · try simp only [decide_eq_true_eq, decide_eq_false_iff_not, Bool.not_eq_true', Bool.not_eq_false', Option.isNone_some, Option.isNone_none, Bool.not_true, Bool.not_false] at h
                        refine tl_v rfl (o_move rfl) ?_
                        refine tl_v rfl (o_nilCheck rfl) ?_
                        refine tl_v rfl (o_fieldAddr (o := 0) Try.underlying46 rfl rfl sz41 rfl) ?_
                        refine tl_v rfl (o_load p41 rfl (by repeat (first | exact has_here | exact has_pt | apply has_left)) rfl) ?_
                        refine tl_c rfl (o_call bd35 rfl (ContentsNoD_f (p := -1) (by omega) (by omega))) ?_
                        rintro _ _ ⟨rfl, rfl⟩
                        refine tl_v rfl (o_len Try.underlying33 rfl) ?_
                        refine tl_v rfl (o_eqi rfl rfl) ?_
                        refine tl_v rfl (by first | exact o_pick_t rfl rfl | exact o_pick_f rfl rfl | exact o_pick rfl rfl) ?_
                        refine tl_v rfl (o_assign rfl) ?_
                        refine tl_nil ?_
                        refine q_then_n ?_
                        refine tc_ret ?_
                        exact ⟨.bool true, _, res1 rfl rfl, fun _ _ h => by repeat (first | exact h | replace h := h.left), rfl, rfl⟩
                      · exfalso; simp at h
                    · exfalso; rw [img_want] at h; simp at h
      · have e2 : Value.slice a2 keep.length c2 = .slice ak kp.length ck := by
          rcases hcase with ⟨h1, _⟩ | ⟨_, h1, h2, h3⟩
          · rw [h1] at h; simp at h
          · rw [h1, h2, h3]
        refine tc_skip ?_
        refine q_then_n ?_
        refine tc_seq ?_
        refine tc_reg ?_
        refine tl_env (d := 2) (v := .slice ak kp.length ck) e2 ?_
        refine tl_v rfl (o_move rfl) ?_
        refine tl_v rfl (o_nilCheck rfl) ?_
        refine tl_v rfl (o_fieldAddr (o := 5) Try.underlying46 rfl rfl sz37 rfl) ?_
        refine tl_v rfl (o_load p37 rfl (by repeat (first | exact has_here | exact has_pt | apply has_left)) rfl) ?_
        refine tl_v rfl (o_len Try.underlying37 rfl) ?_
        refine tl_v rfl (o_assign rfl) ?_
        refine tl_nil ?_
        refine q_then_n ?_
        refine tc_seq ?_
        refine tc_reg ?_
        refine tl_v rfl (o_assign rfl) ?_
        refine tl_nil ?_
        refine q_then_n ?_
        refine tc_seq ?_
        refine tc_seq ?_
        refine tc_reg ?_
        refine tl_pre (fun _ _ h => sl_nil (k := 1) h) ?_
        refine tl_eq (A' := F * pt p (cl (pcs d sv hv lv uv (.slice (some ⟨bm, om, none⟩) P.marks.length cm)) 46) * Dev d P.s * Parts [] [] * Sl 1 (.slice none 0 0) 0 []) (by rw [show Parts [] [] = emp from rfl, star_emp]) ?_
        refine tl_v rfl (o_assign rfl) ?_
        refine tl_nil ?_
        refine q_then_n ?_
        refine tc_block ?_
        refine tc_loop (fun kk ρ BB => ∃ (i : Nat) (wv : Value) (ws : List Value), (i ≤ P.marks.length) ∧ (ws.length = i) ∧ kk = P.marks.length - i ∧ ρ 2 = .slice ak kp.length ck ∧ ρ 7 = .pointer (some ⟨p, 0, none⟩) ∧ ρ 9 = .int .i64 (P.marks.length : Nat) ∧ ρ 10 = wv ∧ ρ 11 = .int .i64 (i : Nat) ∧ BB = F * pt p (cl (pcs d sv hv lv uv (.slice (some ⟨bm, om, none⟩) P.marks.length cm)) 46) * Dev d P.s * Parts ws ((wantS kp P.s).take i) * Sl 1 wv i ws) (m := P.marks.length - (0)) ?_ ?_
        · exact ⟨0, .slice none 0 0, [], by omega, rfl, rfl, rfl, rfl, rfl, rfl, rfl, rfl⟩
        · intro k ρ B hI
          obtain ⟨i, wv, ws, hp0, hp1, rfl, hs2, hs7, hs9, hs10, hs11, rfl⟩ := hI
          refine tc_env (d := 2) hs2 ?_
          refine tc_env (d := 7) hs7 ?_
          refine tc_env (d := 9) hs9 ?_
          refine tc_env (d := 10) hs10 ?_
          refine tc_env (d := 11) hs11 ?_
          refine tc_seq ?_
          refine tc_seq ?_
          refine tc_reg ?_
          refine tl_v rfl (o_move rfl) ?_
          refine tl_v rfl (o_move rfl) ?_
          refine tl_v rfl (o_lss rfl rfl) ?_
          refine tl_nil ?_
          refine q_then_n ?_
          refine tc_cond rfl (fun h => ?_) (fun h => ?_)
          · simp only [decide_eq_true_eq] at h
            have hi' : i < P.s.ls.length := by omega
            have hwl := hw.line _ (List.getElem_mem hi')
            have hne := List.length_pos_iff.2 hwl.ne
            have hsm := hwl.small
            have hct := ctS_at hi'
            have hctl : (ctS i P.s).length = P.s.ls[i].st.length := by rw [hct, List.length_map]
            have hk := kOf_lt (keep := kp) (i := i) hne
            refine tc_skip ?_
            refine q_then_n ?_
            refine tc_seq ?_
            refine tc_block ?_
            refine tc_seq ?_
            refine tc_reg ?_
            refine tl_v rfl (o_move rfl) ?_
            refine tl_v rfl (o_nilCheck rfl) ?_
            refine tl_v rfl (o_fieldAddr (o := 0) Try.underlying46 rfl rfl sz41 rfl) ?_
            refine tl_v rfl (o_load p41 rfl (by repeat (first | exact has_here | exact has_pt | apply has_left)) rfl) ?_
            refine tl_v rfl (o_move rfl) ?_
            refine tl_eq (A' := F * pt p (cl (pcs d sv hv lv uv (.slice (some ⟨bm, om, none⟩) P.marks.length cm)) 46) * Parts ws ((wantS kp P.s).take i) * Sl 1 wv i ws * Dev d P.s) (by ac_rfl) ?_
            refine tl_c rfl (o_call bd35 rfl (ContentsD_f (q := i) hi')) ?_
            rintro u46 _ ⟨_, rfl, vs, rfl⟩
            rw [← star_assoc]
            refine tl_have (fun _ _ h => Foc.have_sl1 (k := 1) (n := (ctS i P.s).length) (v := u46) (xs := vs) (Y := Sl 1 u46 (ctS i P.s).length vs) (by repeat (first | exact foc_here | apply foc_left)) (by omega) h) fun ⟨bx, ox, cx, hvx, hcx, hvl⟩ => ?_
            subst hvx
            refine tl_have (fun _ _ h => Foc.parts (hvs := vs) (held := ctS i P.s) (by repeat (first | exact foc_here | apply foc_left)) (by omega) h) fun hpt => ?_
            refine tl_v rfl (o_assign rfl) ?_
            refine tl_nil ?_
            refine q_then_n ?_
            refine tc_seq ?_
            refine tc_seq ?_
            refine tc_reg ?_
            refine tl_v rfl (o_move rfl) ?_
            refine tl_v rfl (o_len Try.underlying33 rfl) ?_
            refine tl_v rfl (o_eqi rfl rfl) ?_
            refine tl_nil ?_
            refine q_then_n ?_
            refine tc_cond rfl (fun h => ?_) (fun h => ?_)
            · exfalso; rw [decide_eq_true_eq] at h; omega
            · try simp only [decide_eq_true_eq, decide_eq_false_iff_not, Bool.not_eq_true', Bool.not_eq_false', Option.isNone_some, Option.isNone_none, Bool.not_true, Bool.not_false] at h
              refine tc_skip ?_
              refine q_then_n ?_
              refine tc_seq ?_
              refine tc_reg ?_
              refine tl_v rfl (o_assign rfl) ?_
              refine tl_nil ?_
              refine q_then_n ?_
              refine tc_seq ?_
              refine tc_seq ?_
              refine tc_reg ?_
              refine tl_v rfl (o_move rfl) ?_
              refine tl_v rfl (o_move rfl) ?_
              refine tl_v rfl (o_len Try.underlying37 rfl) ?_
              refine tl_v rfl (o_lss rfl rfl) ?_
              refine tl_nil ?_
              refine q_then_n ?_
              refine tc_cond rfl (fun h => ?_) (fun h => ?_)
              · simp only [decide_eq_true_eq] at h
                have hik : i < kp.length := by omega
                obtain ⟨bk, ok, rfl, hck⟩ := hrk.some (by rw [ints_length]; omega)
                have hk1 := hck i _ (ints_at hik)
                have hk2 := hkb2 _ (List.getElem_mem hik)
                refine tc_reg ?_
                refine tl_v rfl (o_move rfl) ?_
                refine tl_v rfl (o_move rfl) ?_
                refine tl_v rfl (o_indexAddrN1 (j := i) Try.underlying37 sz3 rfl rfl (by omega)) ?_
                refine tl_v rfl (o_loadC p3 rfl (by repeat (first | exact hk1 | apply Cell.left))) ?_
                refine tl_v rfl (o_move rfl) ?_
                refine tl_v rfl (o_len Try.underlying33 rfl) ?_
                refine tl_v rfl (o_remI (b := (P.s.ls[i].st.length : Int)) rfl (by show Value.int .i64 ((ctS i P.s).length : Int) = _; rw [hctl]) (by omega)) ?_
                refine tl_v rfl (o_assign rfl) ?_
                refine tl_nil ?_
                refine q_then_n ?_
                refine tc_seq ?_
                refine tc_reg ?_
                refine tl_env (d := 13) (v := .int .i64 ((kOf kp i P.s.ls[i].st.length : Nat) : Int)) (by first | (show Value.int .i64 (kp[i] % (P.s.ls[i].st.length : Int)) = _; congr 1; unfold kOf; rw [dif_pos hik, Int.toNat_of_nonneg (Int.emod_nonneg _ (by omega))]) | (show Value.int .i64 0 = _; congr 1; unfold kOf; rw [dif_neg (by simp at h; omega)]; rfl)) ?_
                refine tl_v rfl (o_move rfl) ?_
                refine tl_v rfl (o_move rfl) ?_
                refine tl_v rfl (o_move rfl) ?_
                refine tl_v rfl (o_indexAddrN1 (j := kOf kp i P.s.ls[i].st.length) Try.underlying33 sz28 rfl rfl (by omega)) ?_
                refine tl_v rfl (o_ldSl (i := kOf kp i P.s.ls[i].st.length) (v := vs[kOf kp i P.s.ls[i].st.length]) p28 rfl (by repeat (first | exact foc_here | apply foc_left)) (List.getElem?_eq_getElem (by omega))) ?_
                obtain ⟨RR, hpg, _⟩ := parts_get (vs := vs) (ls := ctS i P.s) (i := kOf kp i P.s.ls[i].st.length) (by omega) (by omega)
                have hw1 := wantS_at (kp := kp) hw hi'
                have hct2 : (ctS i P.s)[kOf kp i P.s.ls[i].st.length]'(by omega) = (wantS kp P.s)[i]'(by rw [wantS_length]; exact hi') := by rw [hw1]; simp only [hct, List.getElem_map]
                rw [hct2] at hpg
                have hq0 : ∃ q, q + 1 = P.s.ls[i].st.length := ⟨P.s.ls[i].st.length - 1, by omega⟩
                obtain ⟨q, hq⟩ := hq0
                obtain ⟨az, cz, hz, hcz, hrz⟩ := hpt q (by omega)
                have hz64 : (ctS i P.s)[q]'(by omega) = lb (seenL P.s.ls[i]) := by
                  simp only [hct, List.getElem_map]; rw [seenL_eq hne]; congr 2; omega
                have h8 := seen8 hwl
                rw [hz64, h8] at hz
                have hW : ((imgS P.s).drop (i * 64)).take 64 = lb (seenL P.s.ls[i]) := by unfold imgS; rw [img_at hw.line hi', List.take_append_of_le_length (by omega), List.take_of_length_le (by omega)]
                rw [hz64] at hrz
                obtain ⟨ay, cy, hy, _, hry⟩ := hpt (kOf kp i P.s.ls[i].st.length) (by omega)
                have hy1 : oneC vs[kOf kp i P.s.ls[i].st.length] = true := by
                  rw [List.getElem?_eq_getElem (by omega)] at hy; rw [Option.some.inj hy]; rfl
                refine tl_x rfl (o_buildSlice1 (v := vs[kOf kp i P.s.ls[i].st.length]) Try.underlying33 sz28 z28 rfl hy1) ?_
                rintro _ _ ⟨b66, rfl, rfl⟩
                refine tl_eq (A' := F * pt p (cl (pcs d sv hv lv uv (.slice (some ⟨bm, om, none⟩) P.marks.length cm)) 46) * Parts ws ((wantS kp P.s).take i) * Dev d P.s * Parts vs (ctS i P.s) * Sl 1 (.slice (some ⟨bx, ox, none⟩) (ctS i P.s).length cx) (ctS i P.s).length vs * Sl 1 wv i ws * pt b66 (cl [vs[kOf kp i P.s.ls[i].st.length]] 28)) (by ac_rfl) ?_
                refine tl_x rfl (o_append1 Try.underlying33 Try.underlying33 sz28 by28 z28 rfl (by decide) (by decide) rfl rfl rfl rfl (by simp [hy1]) (by omega)) ?_
                rintro u67 _ rfl
                refine tl_v rfl (o_assign rfl) ?_
                refine tl_nil ?_
                refine q_then_n ?_
                refine tc_seq ?_
                refine tc_reg ?_
                refine tl_v rfl (o_move rfl) ?_
                refine tl_v rfl (o_nilCheck rfl) ?_
                refine tl_v rfl (o_fieldAddr (o := 0) Try.underlying46 rfl rfl sz41 rfl) ?_
                refine tl_v rfl (o_load p41 rfl (by repeat (first | exact has_here | exact has_pt | apply has_left)) rfl) ?_
                refine tl_v rfl (o_move rfl) ?_
                refine tl_v rfl (o_mulI (a := 64) (b := (i : Nat)) rfl rfl (by omega)) ?_
                refine tl_env (d := 74) (v := .int .i64 ((i * 64 : Nat) : Int)) (by show Value.int .i64 (64 * (i : Int)) = _; congr 1; omega) ?_
                refine tl_eq (A' := F * pt p (cl (pcs d sv hv lv uv (.slice (some ⟨bm, om, none⟩) P.marks.length cm)) 46) * Parts ws ((wantS kp P.s).take i) * Parts vs (ctS i P.s) * Sl 1 (.slice (some ⟨bx, ox, none⟩) (ctS i P.s).length cx) (ctS i P.s).length vs * Sl 1 u67 (i + 1) (ws ++ [vs[kOf kp i P.s.ls[i].st.length]]) * Dev d P.s) (by ac_rfl) ?_
                refine tl_c rfl (o_call bd27 rfl (LoadD_f (p := i * 64) (m := 64) (W := ((imgS P.s).drop (i * 64)).take 64) hLv.off (by omega) rfl)) ?_
                rintro u75 _ ⟨_, rfl, u9, rfl, rfl⟩
                refine tl_have (fun _ _ h => sl_have h) fun ⟨a75, c75, hv75, _, hl75, hr75⟩ => ?_
                subst hv75
                refine tl_v rfl (o_move rfl) ?_
                refine tl_v rfl (o_extract rfl rfl) ?_
                refine tl_v rfl (o_extract rfl rfl) ?_
                refine tl_v rfl (o_assign rfl) ?_
                refine tl_v rfl (o_assign rfl) ?_
                refine tl_nil ?_
                refine q_then_n ?_
                refine tc_seq ?_
                refine tc_reg ?_
                refine tl_v rfl (o_move rfl) ?_
                refine tl_v rfl (o_nei rfl rfl) ?_
                refine tl_v rfl (o_move rfl) ?_
                refine tl_bool (d := 80) rfl (fun h => ?_) (fun h => ?_)
                · exfalso; simp at h
                · try simp only [decide_eq_true_eq, decide_eq_false_iff_not, Bool.not_eq_true', Bool.not_eq_false', Option.isNone_some, Option.isNone_none, Bool.not_true, Bool.not_false] at h
                  refine tl_v rfl (o_move rfl) ?_
                  refine tl_v rfl (o_move rfl) ?_
                  refine tl_v rfl (o_move rfl) ?_
                  refine tl_v rfl (o_len Try.underlying33 rfl) ?_
                  refine tl_v rfl (o_subI (a := ((ctS i P.s).length : Int)) (b := 1) rfl rfl (by omega)) ?_
                  refine tl_env (d := 85) (v := .int .i64 ((q : Nat) : Int)) (by show Value.int .i64 (((ctS i P.s).length : Int) - 1) = _; rw [hctl, ← hq]; congr 1; omega) ?_
                  refine tl_v rfl (o_indexAddrN1 (j := q) Try.underlying33 sz28 rfl rfl (by omega)) ?_
                  refine tl_v rfl (o_ldSl (i := q) p28 rfl (by repeat (first | exact foc_here | apply foc_left)) hz) ?_
                  refine tl_c rfl (o_call bd22 rfl (EqBytesN_f _ a75 az c75 cz 64 64 (((imgS P.s).drop (i * 64)).take 64) (lb (seenL P.s.ls[i])) hr75 (by repeat (first | exact hrz | exact Rd.right hrz | apply Rd.left)) (by rw [hW, h8]) h8 (by omega) (by omega))) ?_
                  rintro _ _ ⟨rfl, rfl⟩
                  refine tl_v rfl (o_not rfl) ?_
                  refine tl_v rfl (by first | exact o_pick_t rfl rfl | exact o_pick_f rfl rfl | exact o_pick rfl rfl) ?_
                  refine tl_nil ?_
                  refine q_then_n ?_
                  refine tc_cond rfl (fun h => ?_) (fun h => ?_)
                  · exfalso; rw [hW] at h; simp at h
                  · try simp only [decide_eq_true_eq, decide_eq_false_iff_not, Bool.not_eq_true', Bool.not_eq_false', Option.isNone_some, Option.isNone_none, Bool.not_true, Bool.not_false] at h
                    refine tc_skip ?_
                    refine q_block_n (q_then_n ?_)
                    refine tc_reg ?_
                    refine tl_pre (fun _ _ h => (h.perm (show _ = F * pt p (cl (pcs d sv hv lv uv (.slice (some ⟨bm, om, none⟩) P.marks.length cm)) 46) * Dev d P.s * Parts (ws ++ [vs[kOf kp i P.s.ls[i].st.length]]) ((wantS kp P.s).take (i + 1)) * Sl 1 u67 (i + 1) (ws ++ [vs[kOf kp i P.s.ls[i].st.length]]) * (RR * Sl 1 (.slice (some ⟨bx, ox, none⟩) (ctS i P.s).length cx) (ctS i P.s).length vs * Sl 1 (.slice a75 64 c75) 64 (bys (((imgS P.s).drop (i * 64)).take 64))) by rw [hpg, List.take_succ_eq_append_getElem (l := wantS kp P.s) (i := i) (by rw [wantS_length]; exact hi'), parts_snoc (by rw [hp1, List.length_take, wantS_length]; omega)]; ac_rfl)).left) ?_
                    refine tl_v rfl (o_move rfl) ?_
                    refine tl_v rfl (by first | exact o_addI rfl rfl (by omega) | exact o_add rfl rfl) ?_
                    refine tl_v rfl (o_assign rfl) ?_
                    refine tl_nil ?_
                    refine q_then_n ?_
                    exact ⟨_, by omega, i + 1, _, ws ++ [vs[kOf kp i P.s.ls[i].st.length]], by omega, by simp [hp1], rfl, rfl, rfl, rfl, rfl, rfl, rfl⟩
              · try simp only [decide_eq_true_eq, decide_eq_false_iff_not, Bool.not_eq_true', Bool.not_eq_false', Option.isNone_some, Option.isNone_none, Bool.not_true, Bool.not_false] at h
                refine tc_skip ?_
                refine q_then_n ?_
                refine tc_seq ?_
                refine tc_reg ?_
                refine tl_env (d := 13) (v := .int .i64 ((kOf kp i P.s.ls[i].st.length : Nat) : Int)) (by first | (show Value.int .i64 (kp[i] % (P.s.ls[i].st.length : Int)) = _; congr 1; unfold kOf; rw [dif_pos hik, Int.toNat_of_nonneg (Int.emod_nonneg _ (by omega))]) | (show Value.int .i64 0 = _; congr 1; unfold kOf; rw [dif_neg (by simp at h; omega)]; rfl)) ?_
                refine tl_v rfl (o_move rfl) ?_
                refine tl_v rfl (o_move rfl) ?_
                refine tl_v rfl (o_move rfl) ?_
                refine tl_v rfl (o_indexAddrN1 (j := kOf kp i P.s.ls[i].st.length) Try.underlying33 sz28 rfl rfl (by omega)) ?_
                refine tl_v rfl (o_ldSl (i := kOf kp i P.s.ls[i].st.length) (v := vs[kOf kp i P.s.ls[i].st.length]) p28 rfl (by repeat (first | exact foc_here | apply foc_left)) (List.getElem?_eq_getElem (by omega))) ?_
                obtain ⟨RR, hpg, _⟩ := parts_get (vs := vs) (ls := ctS i P.s) (i := kOf kp i P.s.ls[i].st.length) (by omega) (by omega)
                have hw1 := wantS_at (kp := kp) hw hi'
                have hct2 : (ctS i P.s)[kOf kp i P.s.ls[i].st.length]'(by omega) = (wantS kp P.s)[i]'(by rw [wantS_length]; exact hi') := by rw [hw1]; simp only [hct, List.getElem_map]
                rw [hct2] at hpg
                have hq0 : ∃ q, q + 1 = P.s.ls[i].st.length := ⟨P.s.ls[i].st.length - 1, by omega⟩
                obtain ⟨q, hq⟩ := hq0
                obtain ⟨az, cz, hz, hcz, hrz⟩ := hpt q (by omega)
                have hz64 : (ctS i P.s)[q]'(by omega) = lb (seenL P.s.ls[i]) := by
                  simp only [hct, List.getElem_map]; rw [seenL_eq hne]; congr 2; omega
                have h8 := seen8 hwl
                rw [hz64, h8] at hz
                have hW : ((imgS P.s).drop (i * 64)).take 64 = lb (seenL P.s.ls[i]) := by unfold imgS; rw [img_at hw.line hi', List.take_append_of_le_length (by omega), List.take_of_length_le (by omega)]
                rw [hz64] at hrz
                obtain ⟨ay, cy, hy, _, hry⟩ := hpt (kOf kp i P.s.ls[i].st.length) (by omega)
                have hy1 : oneC vs[kOf kp i P.s.ls[i].st.length] = true := by
                  rw [List.getElem?_eq_getElem (by omega)] at hy; rw [Option.some.inj hy]; rfl
                refine tl_x rfl (o_buildSlice1 (v := vs[kOf kp i P.s.ls[i].st.length]) Try.underlying33 sz28 z28 rfl hy1) ?_
                rintro _ _ ⟨b66, rfl, rfl⟩
                refine tl_eq (A' := F * pt p (cl (pcs d sv hv lv uv (.slice (some ⟨bm, om, none⟩) P.marks.length cm)) 46) * Parts ws ((wantS kp P.s).take i) * Dev d P.s * Parts vs (ctS i P.s) * Sl 1 (.slice (some ⟨bx, ox, none⟩) (ctS i P.s).length cx) (ctS i P.s).length vs * Sl 1 wv i ws * pt b66 (cl [vs[kOf kp i P.s.ls[i].st.length]] 28)) (by ac_rfl) ?_
                refine tl_x rfl (o_append1 Try.underlying33 Try.underlying33 sz28 by28 z28 rfl (by decide) (by decide) rfl rfl rfl rfl (by simp [hy1]) (by omega)) ?_
                rintro u67 _ rfl
                refine tl_v rfl (o_assign rfl) ?_
                refine tl_nil ?_
                refine q_then_n ?_
                refine tc_seq ?_
                refine tc_reg ?_
                refine tl_v rfl (o_move rfl) ?_
                refine tl_v rfl (o_nilCheck rfl) ?_
                refine tl_v rfl (o_fieldAddr (o := 0) Try.underlying46 rfl rfl sz41 rfl) ?_
                refine tl_v rfl (o_load p41 rfl (by repeat (first | exact has_here | exact has_pt | apply has_left)) rfl) ?_
                refine tl_v rfl (o_move rfl) ?_
                refine tl_v rfl (o_mulI (a := 64) (b := (i : Nat)) rfl rfl (by omega)) ?_
                refine tl_env (d := 74) (v := .int .i64 ((i * 64 : Nat) : Int)) (by show Value.int .i64 (64 * (i : Int)) = _; congr 1; omega) ?_
                refine tl_eq (A' := F * pt p (cl (pcs d sv hv lv uv (.slice (some ⟨bm, om, none⟩) P.marks.length cm)) 46) * Parts ws ((wantS kp P.s).take i) * Parts vs (ctS i P.s) * Sl 1 (.slice (some ⟨bx, ox, none⟩) (ctS i P.s).length cx) (ctS i P.s).length vs * Sl 1 u67 (i + 1) (ws ++ [vs[kOf kp i P.s.ls[i].st.length]]) * Dev d P.s) (by ac_rfl) ?_
                refine tl_c rfl (o_call bd27 rfl (LoadD_f (p := i * 64) (m := 64) (W := ((imgS P.s).drop (i * 64)).take 64) hLv.off (by omega) rfl)) ?_
                rintro u75 _ ⟨_, rfl, u9, rfl, rfl⟩
                refine tl_have (fun _ _ h => sl_have h) fun ⟨a75, c75, hv75, _, hl75, hr75⟩ => ?_
                subst hv75
                refine tl_v rfl (o_move rfl) ?_
                refine tl_v rfl (o_extract rfl rfl) ?_
                refine tl_v rfl (o_extract rfl rfl) ?_
                refine tl_v rfl (o_assign rfl) ?_
                refine tl_v rfl (o_assign rfl) ?_
                refine tl_nil ?_
                refine q_then_n ?_
                refine tc_seq ?_
                refine tc_reg ?_
                refine tl_v rfl (o_move rfl) ?_
                refine tl_v rfl (o_nei rfl rfl) ?_
                refine tl_v rfl (o_move rfl) ?_
                refine tl_bool (d := 80) rfl (fun h => ?_) (fun h => ?_)
                · exfalso; simp at h
                · try simp only [decide_eq_true_eq, decide_eq_false_iff_not, Bool.not_eq_true', Bool.not_eq_false', Option.isNone_some, Option.isNone_none, Bool.not_true, Bool.not_false] at h
                  refine tl_v rfl (o_move rfl) ?_
                  refine tl_v rfl (o_move rfl) ?_
                  refine tl_v rfl (o_move rfl) ?_
                  refine tl_v rfl (o_len Try.underlying33 rfl) ?_
                  refine tl_v rfl (o_subI (a := ((ctS i P.s).length : Int)) (b := 1) rfl rfl (by omega)) ?_
                  refine tl_env (d := 85) (v := .int .i64 ((q : Nat) : Int)) (by show Value.int .i64 (((ctS i P.s).length : Int) - 1) = _; rw [hctl, ← hq]; congr 1; omega) ?_
                  refine tl_v rfl (o_indexAddrN1 (j := q) Try.underlying33 sz28 rfl rfl (by omega)) ?_
                  refine tl_v rfl (o_ldSl (i := q) p28 rfl (by repeat (first | exact foc_here | apply foc_left)) hz) ?_
                  refine tl_c rfl (o_call bd22 rfl (EqBytesN_f _ a75 az c75 cz 64 64 (((imgS P.s).drop (i * 64)).take 64) (lb (seenL P.s.ls[i])) hr75 (by repeat (first | exact hrz | exact Rd.right hrz | apply Rd.left)) (by rw [hW, h8]) h8 (by omega) (by omega))) ?_
                  rintro _ _ ⟨rfl, rfl⟩
                  refine tl_v rfl (o_not rfl) ?_
                  refine tl_v rfl (by first | exact o_pick_t rfl rfl | exact o_pick_f rfl rfl | exact o_pick rfl rfl) ?_
                  refine tl_nil ?_
                  refine q_then_n ?_
                  refine tc_cond rfl (fun h => ?_) (fun h => ?_)
                  · exfalso; rw [hW] at h; simp at h
                  · try simp only [decide_eq_true_eq, decide_eq_false_iff_not, Bool.not_eq_true', Bool.not_eq_false', Option.isNone_some, Option.isNone_none, Bool.not_true, Bool.not_false] at h
                    refine tc_skip ?_
                    refine q_block_n (q_then_n ?_)
                    refine tc_reg ?_
                    refine tl_pre (fun _ _ h => (h.perm (show _ = F * pt p (cl (pcs d sv hv lv uv (.slice (some ⟨bm, om, none⟩) P.marks.length cm)) 46) * Dev d P.s * Parts (ws ++ [vs[kOf kp i P.s.ls[i].st.length]]) ((wantS kp P.s).take (i + 1)) * Sl 1 u67 (i + 1) (ws ++ [vs[kOf kp i P.s.ls[i].st.length]]) * (RR * Sl 1 (.slice (some ⟨bx, ox, none⟩) (ctS i P.s).length cx) (ctS i P.s).length vs * Sl 1 (.slice a75 64 c75) 64 (bys (((imgS P.s).drop (i * 64)).take 64))) by rw [hpg, List.take_succ_eq_append_getElem (l := wantS kp P.s) (i := i) (by rw [wantS_length]; exact hi'), parts_snoc (by rw [hp1, List.length_take, wantS_length]; omega)]; ac_rfl)).left) ?_
                    refine tl_v rfl (o_move rfl) ?_
                    refine tl_v rfl (by first | exact o_addI rfl rfl (by omega) | exact o_add rfl rfl) ?_
                    refine tl_v rfl (o_assign rfl) ?_
                    refine tl_nil ?_
                    refine q_then_n ?_
                    exact ⟨_, by omega, i + 1, _, ws ++ [vs[kOf kp i P.s.ls[i].st.length]], by omega, by simp [hp1], rfl, rfl, rfl, rfl, rfl, rfl, rfl⟩
          · simp only [decide_eq_false_iff_not] at h
            obtain rfl : i = P.marks.length := by omega
            have hwl0 : (wantS kp P.s).take P.marks.length = wantS kp P.s := List.take_of_length_le (by rw [wantS_length]; omega)
            rw [hwl0]
            refine tc_exit ?_
            refine q_then_e (q_then_e (q_block_x (q_then_n ?_)))
            refine tc_seq ?_
            refine tc_seq ?_
            refine tc_cut (fun ρ A => ρ 7 = .pointer (some ⟨p, 0, none⟩) ∧ ρ 9 = .int .i64 (P.marks.length : Nat) ∧ ρ 10 = wv ∧ ρ 98 = .bool false ∧ A = F * pt p (cl (pcs d sv hv lv uv (.slice (some ⟨bm, om, none⟩) P.marks.length cm)) 46) * Parts ws (wantS kp P.s) * Sl 1 wv P.marks.length ws * Dev d (goesS kp P.s)) ?_ ?_
            · skip
              refine tc_rega mo ?_
              show TA _ _ _ _ 8 #[false, false, false, false, false, false, false, false] _ _
              refine ta_pure (i := 0) (listed' := #[true, false, false, false, false, false, false, false]) rfl (by kernel_rfl) (by kernel_rfl) (by kernel_rfl) rfl rfl (o_move rfl) ?_
              refine ta_pure (i := 1) (listed' := #[true, true, false, false, false, false, false, false]) rfl (by kernel_rfl) (by kernel_rfl) (by kernel_rfl) rfl rfl (o_nilCheck rfl) ?_
              refine ta_pure (i := 2) (listed' := #[true, true, true, false, false, false, false, false]) rfl (by kernel_rfl) (by kernel_rfl) (by kernel_rfl) rfl rfl (o_fieldAddr (o := 0) Try.underlying46 rfl rfl sz41 rfl) ?_
              refine ta_pure (i := 4) (listed' := #[true, true, true, false, true, false, false, false]) rfl (by kernel_rfl) (by kernel_rfl) (by kernel_rfl) rfl rfl (o_move rfl) ?_
              refine ta_two (i := 3) (j := 5) (by kernel_rfl) ?_ ?_
              · skip
                refine oa_v (i := 3) (listed' := #[true, true, true, true, true, false, false, false]) rfl rfl rfl (o_load p41 rfl (by repeat (first | exact has_here | exact has_pt | apply has_left)) rfl) ?_
                refine ta_one (i := 5) (by kernel_rfl) ?_
                refine oa_c (i := 5) (listed' := #[true, true, true, true, true, true, false, false]) rfl rfl rfl (o_call bd29 rfl (CopyInts_f _ ak ck kp (by repeat (first | exact hrk | apply Rd.left)) hkl2)) ?_
                rintro u96 _ rfl
                refine ta_eq (A' := F * pt p (cl (pcs d sv hv lv uv (.slice (some ⟨bm, om, none⟩) P.marks.length cm)) 46) * Parts ws (wantS kp P.s) * Sl 1 wv P.marks.length ws * Sl 1 u96 kp.length (ints kp) * Dev d P.s) (by ac_rfl) ?_
                refine ta_have (fun _ _ h => sl_have h.left) fun ⟨a96, c96, hv96, _, _, hr96⟩ => ?_
                subst hv96
                refine ta_one (i := 6) (by kernel_rfl) ?_
                refine oa_c (i := 6) (listed' := #[true, true, true, true, true, true, true, false]) rfl rfl rfl (o_call bd28 rfl (Crash_f _ d c96 P.s a96 kp hr96 (fun k hk => (hkb2 k hk).2) hkl2)) ?_
                rintro _ _ ⟨rfl, rfl⟩
                rw [if_neg (show ¬ P.s.off = true by rw [hLv.off]; decide), if_neg (show ¬ P.s.off = true by rw [hLv.off]; decide), if_neg (show ¬ lowB kp = true by rw [hlowk]; decide), if_neg (show ¬ lowB kp = true by rw [hlowk]; decide)]
                refine ta_pre (fun _ _ h => (h.perm (show _ = F * pt p (cl (pcs d sv hv lv uv (.slice (some ⟨bm, om, none⟩) P.marks.length cm)) 46) * Parts ws (wantS kp P.s) * Sl 1 wv P.marks.length ws * Dev d (goesS kp P.s) * (Sl 1 (.slice a96 kp.length c96) kp.length (ints kp)) by ac_rfl)).left) ?_
                refine ta_pure (i := 7) (listed' := #[true, true, true, true, true, true, true, true]) rfl (by kernel_rfl) (by kernel_rfl) (by kernel_rfl) rfl rfl (o_nei rfl rfl) ?_
                refine ta_done (by kernel_rfl) ?_
                exact ⟨rfl, rfl, rfl, rfl, rfl⟩
              · skip
                refine oa_c (i := 5) (listed' := #[true, true, true, false, true, true, false, false]) rfl rfl rfl (o_call bd29 rfl (CopyInts_f _ ak ck kp (by repeat (first | exact hrk | apply Rd.left)) hkl2)) ?_
                rintro u96 _ rfl
                refine ta_eq (A' := F * pt p (cl (pcs d sv hv lv uv (.slice (some ⟨bm, om, none⟩) P.marks.length cm)) 46) * Parts ws (wantS kp P.s) * Sl 1 wv P.marks.length ws * Sl 1 u96 kp.length (ints kp) * Dev d P.s) (by ac_rfl) ?_
                refine ta_have (fun _ _ h => sl_have h.left) fun ⟨a96, c96, hv96, _, _, hr96⟩ => ?_
                subst hv96
                refine ta_one (i := 3) (by kernel_rfl) ?_
                refine oa_v (i := 3) (listed' := #[true, true, true, true, true, true, false, false]) rfl rfl rfl (o_load p41 rfl (by repeat (first | exact has_here | exact has_pt | apply has_left)) rfl) ?_
                refine ta_one (i := 6) (by kernel_rfl) ?_
                refine oa_c (i := 6) (listed' := #[true, true, true, true, true, true, true, false]) rfl rfl rfl (o_call bd28 rfl (Crash_f _ d c96 P.s a96 kp hr96 (fun k hk => (hkb2 k hk).2) hkl2)) ?_
                rintro _ _ ⟨rfl, rfl⟩
                rw [if_neg (show ¬ P.s.off = true by rw [hLv.off]; decide), if_neg (show ¬ P.s.off = true by rw [hLv.off]; decide), if_neg (show ¬ lowB kp = true by rw [hlowk]; decide), if_neg (show ¬ lowB kp = true by rw [hlowk]; decide)]
                refine ta_pre (fun _ _ h => (h.perm (show _ = F * pt p (cl (pcs d sv hv lv uv (.slice (some ⟨bm, om, none⟩) P.marks.length cm)) 46) * Parts ws (wantS kp P.s) * Sl 1 wv P.marks.length ws * Dev d (goesS kp P.s) * (Sl 1 (.slice a96 kp.length c96) kp.length (ints kp)) by ac_rfl)).left) ?_
                refine ta_pure (i := 7) (listed' := #[true, true, true, true, true, true, true, true]) rfl (by kernel_rfl) (by kernel_rfl) (by kernel_rfl) rfl rfl (o_nei rfl rfl) ?_
                refine ta_done (by kernel_rfl) ?_
                exact ⟨rfl, rfl, rfl, rfl, rfl⟩
            · intro ρ A hI
              obtain ⟨h7, h9, h10, h98, rfl⟩ := hI
              refine q_then_n ?_
              refine tc_env (d := 7) h7 ?_
              refine tc_env (d := 9) h9 ?_
              refine tc_env (d := 10) h10 ?_
              refine tc_env (d := 98) h98 ?_
              refine tc_cond rfl (fun h => ?_) (fun h => ?_)
              · exfalso; simp at h
              · try simp only [decide_eq_true_eq, decide_eq_false_iff_not, Bool.not_eq_true', Bool.not_eq_false', Option.isNone_some, Option.isNone_none, Bool.not_true, Bool.not_false] at h
                refine tc_skip ?_
                refine q_then_n ?_
                refine tc_seq ?_
                refine tc_seq ?_
                refine tc_reg ?_
                have hwl2 : WfD (goesS kp P.s) := goesS_wf hw
                have hls2 : (goesS kp P.s).ls.length = P.marks.length := by simp [goesS, goPart_length]; omega
                have hwln : (wantS kp P.s).length = P.marks.length := by rw [wantS_length]; omega
                refine tl_have (fun _ _ h => Foc.have_sl1 (k := 1) (n := P.marks.length) (v := wv) (xs := ws) (Y := Sl 1 wv P.marks.length ws) (by repeat (first | exact foc_here | apply foc_left)) (by omega) h) fun ⟨bw, ow, cw, hvw, _, hvlw⟩ => ?_
                subst hvw
                refine tl_have (fun _ _ h => Foc.parts (hvs := ws) (held := wantS kp P.s) (by repeat (first | exact foc_here | apply foc_left)) (by omega) h) fun hpw => ?_
                refine tl_v rfl (o_assign rfl) ?_
                refine tl_nil ?_
                refine q_then_n ?_
                refine tc_block ?_
                refine tc_loop (fun kk ρ BB => ∃ (i : Nat), (i ≤ P.marks.length) ∧ kk = P.marks.length - i ∧ ρ 7 = .pointer (some ⟨p, 0, none⟩) ∧ ρ 9 = .int .i64 (P.marks.length : Nat) ∧ ρ 10 = .slice (some ⟨bw, ow, none⟩) P.marks.length cw ∧ ρ 16 = .int .i64 (i : Nat) ∧ BB = F * pt p (cl (pcs d sv hv lv uv (.slice (some ⟨bm, om, none⟩) P.marks.length cm)) 46) * Parts ws (wantS kp P.s) * Sl 1 (.slice (some ⟨bw, ow, none⟩) P.marks.length cw) P.marks.length ws * Dev d (goesS kp P.s)) (m := P.marks.length - (0)) ?_ ?_
                · exact ⟨0, by omega, rfl, rfl, rfl, rfl, rfl, rfl⟩
                · intro k ρ B hI
                  obtain ⟨i, hp0, rfl, hs7, hs9, hs10, hs16, rfl⟩ := hI
                  refine tc_env (d := 7) hs7 ?_
                  refine tc_env (d := 9) hs9 ?_
                  refine tc_env (d := 10) hs10 ?_
                  refine tc_env (d := 16) hs16 ?_
                  refine tc_seq ?_
                  refine tc_seq ?_
                  refine tc_reg ?_
                  refine tl_v rfl (o_move rfl) ?_
                  refine tl_v rfl (o_move rfl) ?_
                  refine tl_v rfl (o_lss rfl rfl) ?_
                  refine tl_nil ?_
                  refine q_then_n ?_
                  refine tc_cond rfl (fun h => ?_) (fun h => ?_)
                  · simp only [decide_eq_true_eq] at h
                    have hi' : i < P.s.ls.length := by omega
                    have hct := ctS_goes (kp := kp) hw hi'
                    have hctl : (ctS i (goesS kp P.s)).length = 1 := by rw [hct]; rfl
                    obtain ⟨aw, cw2, hzw, hcw2, hrw⟩ := hpw i (by omega)
                    refine tc_skip ?_
                    refine q_then_n ?_
                    refine tc_seq ?_
                    refine tc_block ?_
                    refine tc_seq ?_
                    refine tc_reg ?_
                    refine tl_v rfl (o_move rfl) ?_
                    refine tl_v rfl (o_nilCheck rfl) ?_
                    refine tl_v rfl (o_fieldAddr (o := 0) Try.underlying46 rfl rfl sz41 rfl) ?_
                    refine tl_v rfl (o_load p41 rfl (by repeat (first | exact has_here | exact has_pt | apply has_left)) rfl) ?_
                    refine tl_v rfl (o_move rfl) ?_
                    refine tl_c rfl (o_call bd35 rfl (ContentsD_f (q := i) (by omega))) ?_
                    rintro u109 _ ⟨_, rfl, vs, rfl⟩
                    rw [← star_assoc, hctl, hct]
                    refine tl_have (fun _ _ h => Foc.have_sl1 (k := 1) (n := 1) (v := u109) (xs := vs) (Y := Sl 1 u109 1 vs) (by repeat (first | exact foc_here | apply foc_left)) (by omega) h) fun ⟨bx, ox, cx, hvx, hcx, hvl⟩ => ?_
                    subst hvx
                    refine tl_have (fun _ _ h => Foc.parts (hvs := vs) (held := [(wantS kp P.s)[i]'(by rw [wantS_length]; exact hi')]) (by repeat (first | exact foc_here | apply foc_left)) (by simpa using hvl) h) fun hpt => ?_
                    obtain ⟨az, cz, hz, hcz, hrz⟩ := hpt 0 (by simp)
                    simp only [List.getElem_cons_zero] at hz hrz hcz
                    have hlz : (wantS kp P.s)[i].length = 64 := by rw [wantS_at hw hi', lb_length, (hw.line _ (List.getElem_mem hi')).eight _ (List.getElem_mem _)]
                    refine tl_v rfl (o_assign rfl) ?_
                    refine tl_nil ?_
                    refine q_then_n ?_
                    refine tc_seq ?_
                    refine tc_regq mo (by kernel_rfl) ?_
                    refine ql_v rfl (o_move rfl) ?_
                    refine ql_v rfl (o_len Try.underlying33 rfl) ?_
                    refine ql_v rfl (o_nei rfl rfl) ?_
                    refine ql_v rfl (o_move rfl) ?_
                    refine ql_bool (d := 113) rfl (fun h => ?_) (fun h => ?_)
                    · exfalso; simp at h
                    · try simp only [decide_eq_true_eq, decide_eq_false_iff_not, Bool.not_eq_true', Bool.not_eq_false', Option.isNone_some, Option.isNone_none, Bool.not_true, Bool.not_false] at h
                      refine ql_v rfl (o_move rfl) ?_
                      refine ql_v rfl (o_indexAddrN1 (j := 0) Try.underlying33 sz28 rfl rfl (by omega)) ?_
                      refine ql_v rfl (o_ldSl (i := 0) p28 rfl (by repeat (first | exact foc_here | apply foc_left)) hz) ?_
                      refine ql_v rfl (o_move rfl) ?_
                      refine ql_v rfl (o_move rfl) ?_
                      refine ql_v rfl (o_indexAddrN1 (j := i) Try.underlying33 sz28 rfl rfl (by omega)) ?_
                      refine ql_v rfl (o_ldSl (i := i) p28 rfl (by repeat (first | exact foc_here | apply foc_left)) hzw) ?_
                      refine ql_c rfl (fun w => exec_call bd22 rfl) (EqBytes_f _ az aw cz cw2 ((wantS kp P.s)[i]'(by rw [wantS_length]; exact hi')) ((wantS kp P.s)[i]'(by rw [wantS_length]; exact hi')) (by repeat (first | exact hrz | exact Rd.right hrz | apply Rd.left)) (by repeat (first | exact hrw | exact Rd.right hrw | apply Rd.left)) (by omega) (by omega)) ?_
                      refine ql_v rfl (o_not rfl) ?_
                      refine ql_v rfl (by first | exact o_pick_t rfl rfl | exact o_pick_f rfl rfl | exact o_pick rfl rfl) ?_
                      refine ql_nil ?_
                      refine q_then_n ?_
                      refine tc_cond rfl (fun h => ?_) (fun h => ?_)
                      · exfalso; simp at h
                      · try simp only [decide_eq_true_eq, decide_eq_false_iff_not, Bool.not_eq_true', Bool.not_eq_false', Option.isNone_some, Option.isNone_none, Bool.not_true, Bool.not_false] at h
                        refine tc_skip ?_
                        refine q_block_n (q_then_n ?_)
                        refine tc_reg ?_
                        refine tl_pre (fun _ _ h => h.left.left) ?_
                        refine tl_v rfl (o_move rfl) ?_
                        refine tl_v rfl (by first | exact o_addI rfl rfl (by omega) | exact o_add rfl rfl) ?_
                        refine tl_v rfl (o_assign rfl) ?_
                        refine tl_nil ?_
                        refine q_then_n ?_
                        exact ⟨_, by omega, i + 1, by omega, rfl, rfl, rfl, rfl, rfl, rfl⟩
                  · simp only [decide_eq_false_iff_not] at h
                    refine tc_exit ?_
                    refine q_then_e (q_then_e (q_block_x (q_then_n ?_)))
                    refine tc_seq ?_
                    refine tc_reg ?_
                    refine tl_v rfl (o_move rfl) ?_
                    refine tl_v rfl (o_nilCheck rfl) ?_
                    refine tl_v rfl (o_fieldAddr (o := 0) Try.underlying46 rfl rfl sz41 rfl) ?_
                    refine tl_v rfl (o_load p41 rfl (by repeat (first | exact has_here | exact has_pt | apply has_left)) rfl) ?_
                    refine tl_c rfl (o_call bd33 rfl (ImageD_f)) ?_
                    rintro u128 _ ⟨_, rfl, rfl⟩
                    refine tl_have (fun _ _ h => sl_have h) fun ⟨ai, ci, hvi, _, hli, hri⟩ => ?_
                    subst hvi
                    refine tl_have (fun _ _ h => rows_of (v := .slice (some ⟨bw, ow, none⟩) P.marks.length cw) (vs := ws) (ls := wantS kp P.s) (by rw [hwln]; exact (by repeat (first | exact foc_here | apply foc_left))) (by repeat (first | exact foc_here | apply foc_left)) h) fun ⟨ar, cr, hvr, _, _, hrr⟩ => ?_
                    rw [hwln] at hvr
                    simp only [Value.slice.injEq, true_and] at hvr
                    obtain ⟨rfl, rfl⟩ := hvr
                    have hil : (imgS (goesS kp P.s)).length = (goesS kp P.s).ls.length * 64 := img_length hwl2.line
                    have hfl : (wantS kp P.s).flatten.length = (goesS kp P.s).ls.length * 64 := by rw [← img_want]; exact hil
                    refine tl_v rfl (o_move rfl) ?_
                    refine tl_c rfl (o_call bd36 rfl (JoinN_f _ (some ⟨bw, ow, none⟩) cw P.marks.length (wantS kp P.s) hrr (by omega) (by omega) hwln)) ?_
                    rintro u130 _ rfl
                    refine tl_have (fun _ _ h => sl_have h) fun ⟨aj, cj, hvj, _, hlj, hrj⟩ => ?_
                    subst hvj
                    refine tl_c rfl (o_call bd22 rfl (EqBytesN_f _ ai aj ci cj _ _ (imgS (goesS kp P.s)) (wantS kp P.s).flatten (by repeat (first | exact hri | apply Rd.left)) (by repeat (first | exact hrj | apply Rd.left)) hil rfl (by omega) (by omega))) ?_
                    rintro _ _ ⟨rfl, rfl⟩
                    refine tl_v rfl (o_move rfl) ?_
                    refine tl_bool (d := 132) rfl (fun h => ?_) (fun h => ?_)
                    · try simp only [decide_eq_true_eq, decide_eq_false_iff_not, Bool.not_eq_true', Bool.not_eq_false', Option.isNone_some, Option.isNone_none, Bool.not_true, Bool.not_false] at h
                      refine tl_v rfl (o_move rfl) ?_
                      refine tl_v rfl (o_nilCheck rfl) ?_
                      refine tl_v rfl (o_fieldAddr (o := 0) Try.underlying46 rfl rfl sz41 rfl) ?_
                      refine tl_v rfl (o_load p41 rfl (by repeat (first | exact has_here | exact has_pt | apply has_left)) rfl) ?_
                      refine tl_v rfl (o_move rfl) ?_
                      refine tl_pre (fun _ _ h => h.left.left) ?_
                      refine tl_c rfl (o_call bd35 rfl (ContentsNoD_f (p := (P.marks.length : Nat)) (by omega) (by omega))) ?_
                      rintro _ _ ⟨rfl, rfl⟩
                      refine tl_v rfl (o_len Try.underlying33 rfl) ?_
                      refine tl_v rfl (o_eqi rfl rfl) ?_
                      refine tl_v rfl (by first | exact o_pick_t rfl rfl | exact o_pick_f rfl rfl | exact o_pick rfl rfl) ?_
                      refine tl_v rfl (o_move rfl) ?_
                      refine tl_bool (d := 142) rfl (fun h => ?_) (fun h => ?_)
                      · try simp only [decide_eq_true_eq, decide_eq_false_iff_not, Bool.not_eq_true', Bool.not_eq_false', Option.isNone_some, Option.isNone_none, Bool.not_true, Bool.not_false] at h
                        refine tl_v rfl (o_move rfl) ?_
                        refine tl_v rfl (o_nilCheck rfl) ?_
                        refine tl_v rfl (o_fieldAddr (o := 0) Try.underlying46 rfl rfl sz41 rfl) ?_
                        refine tl_v rfl (o_load p41 rfl (by repeat (first | exact has_here | exact has_pt | apply has_left)) rfl) ?_
                        refine tl_c rfl (o_call bd35 rfl (ContentsNoD_f (p := -1) (by omega) (by omega))) ?_
                        rintro _ _ ⟨rfl, rfl⟩
                        refine tl_v rfl (o_len Try.underlying33 rfl) ?_
                        refine tl_v rfl (o_eqi rfl rfl) ?_
                        refine tl_v rfl (by first | exact o_pick_t rfl rfl | exact o_pick_f rfl rfl | exact o_pick rfl rfl) ?_
                        refine tl_v rfl (o_assign rfl) ?_
                        refine tl_nil ?_
                        refine q_then_n ?_
                        refine tc_ret ?_
                        exact ⟨.bool true, _, res1 rfl rfl, fun _ _ h => by repeat (first | exact h | replace h := h.left), rfl, rfl⟩
                      · exfalso; simp at h
                    · exfalso; rw [img_want] at h; simp at h

end Go.Vl
