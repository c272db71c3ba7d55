/- vellumlaw08: a step is played. Conditions: none. -/
import Derived.Test.YtimckjnnjakcoaaL8c
set_option linter.unusedVariables false
set_option linter.unusedSimpArgs false
namespace Go.Vl
open Go Go.Proofs

set_option maxRecDepth 20000 in
set_option maxHeartbeats 2000000 in
theorem play2_f (F : SP) (p d v : Nat) (k q : Int) (nv dv kv av sv hv lv uv mv : Value) (hvs : List Value) (P : PlS) (hP : WfP 1 P) (hv64 : v < 18446744073709551616) (hk2 : k = 2) :
    Fn Try.prog 45 #[.pointer (some ⟨p, 0, none⟩), .agg [.int .i64 k, .int .i64 q, nv, .int .u64 (v : Nat), dv, kv, av].toArray] (F * PlC p d sv hv lv uv mv hvs P) (fun r B => ∃ hvs', r = .bool (stepP k q v P).1 ∧ B = F * PlC p d sv hv lv uv mv hvs' (stepP k q v P).2) := by
  have hE := @fn_enterW Try.prog 45 Try.f45 _ [.pointer (some ⟨p, 0, none⟩), .agg [.int .i64 k, .int .i64 q, nv, .int .u64 (v : Nat), dv, kv, av].toArray] (F * PlC p d sv hv lv uv mv hvs P) (fun r B => ∃ hvs', r = .bool (stepP k q v P).1 ∧ B = F * PlC p d sv hv lv uv mv hvs' (stepP k q v P).2) _ Try.func45 rfl Try.ntmps45 (by simp)
  refine hE ?_
  clear hE
  have hw0 : 0 < P.seen.length := by have := hP.seen; have := hP.pos; omega
  have hseen := hP.seen
  have htop := hP.top
  have hpos := hP.pos
  have hlastl := hP.last
  have hsurel := hP.sure
  have hheldl := hP.held
  have hlsl := hP.ls
  have hwlt := wi_lt (p := q) hw0
  have hw8 : wi q P.seen.length / 8 < P.marks.length := by omega
  refine tc_eq plC_eq ?_
  refine tc_have (fun _ _ h => Foc.have_sl1 (k := 1) (n := P.seen.length) (v := sv) (xs := wds P.seen) (Y := Sl 1 sv P.seen.length (wds P.seen)) (by repeat (first | exact foc_here | apply foc_left)) (by omega) h) fun ⟨bs, os, cs, hsv, _, _⟩ => ?_
  refine tc_have (fun _ _ h => Foc.have_sl1 (k := 1) (n := P.seen.length) (v := hv) (xs := hvs) (Y := Sl 1 hv P.seen.length hvs) (by repeat (first | exact foc_here | apply foc_left)) (by omega) h) fun ⟨bh, oh, ch, hhv, _, hvl⟩ => ?_
  refine tc_have (fun _ _ h => Foc.have_sl1 (k := 1) (n := P.seen.length) (v := lv) (xs := wds P.last) (Y := Sl 1 lv P.seen.length (wds P.last)) (by repeat (first | exact foc_here | apply foc_left)) (by omega) h) fun ⟨bl, ol, cL, hlv, _, _⟩ => ?_
  refine tc_have (fun _ _ h => Foc.have_sl1 (k := 1) (n := P.seen.length) (v := uv) (xs := bos P.sure) (Y := Sl 1 uv P.seen.length (bos P.sure)) (by repeat (first | exact foc_here | apply foc_left)) (by omega) h) fun ⟨bu, ou, cu, huv, _, _⟩ => ?_
  refine tc_have (fun _ _ h => Foc.have_sl1 (k := 1) (n := P.marks.length) (v := mv) (xs := ints P.marks) (Y := Sl 1 mv P.marks.length (ints P.marks)) (by repeat (first | exact foc_here | apply foc_left)) (by omega) h) fun ⟨bm, om, cm, hmv, _, _⟩ => ?_
  subst hsv hhv hlv huv hmv
  have hwh : wi q P.seen.length < P.held.length := by omega
  have hwv : wi q P.seen.length < hvs.length := by omega
  obtain ⟨R, hW1, hW2⟩ := words_get (vs := hvs) (ls := P.held) (i := wi q P.seen.length) (by omega) hwh
  have hW3 : ∀ u, Words (hvs.set (wi q P.seen.length) u) (P.held.set (wi q P.seen.length) (P.held[wi q P.seen.length] ++ [v])) = R * Sl 1 u (P.held[wi q P.seen.length].length + 1) (wds P.held[wi q P.seen.length] ++ [.int .u64 (v : Nat)]) := fun u => by
    rw [hW2, List.length_append]; unfold wds; rw [List.map_append]; rfl
  have hhroom := hP.hroom _ (List.getElem_mem hwh)
  refine tc_seq ?_
  refine tc_reg ?_
  refine tl_x rfl (o_box rfl rfl) ?_
  rintro _ _ ⟨b3, rfl, rfl⟩
  refine tl_v rfl (o_assign rfl) ?_
  refine tl_nil ?_
  refine q_then_n ?_
  refine tc_seq ?_
  refine tc_reg ?_
  refine tl_v rfl (o_move rfl) ?_
  refine tl_v rfl (o_nilCheck rfl) ?_
  refine tl_v rfl (o_fieldAddr (o := 1) Try.underlying46 rfl rfl sz42 rfl) ?_
  refine tl_v rfl (o_load p42 rfl (by repeat (first | exact has_here | exact has_pt | apply has_left)) rfl) ?_
  refine tl_v rfl (o_len Try.underlying42 rfl) ?_
  refine tl_v rfl (o_assign rfl) ?_
  refine tl_nil ?_
  refine q_then_n ?_
  refine tc_seq ?_
  refine tc_reg ?_
  refine tl_v rfl (o_fieldAddr (o := 1) Try.underlying76 rfl rfl sz3 rfl) ?_
  refine tl_v rfl (o_load p3 rfl (by repeat (first | exact has_here | exact has_pt | apply has_left)) rfl) ?_
  refine tl_v rfl (o_move rfl) ?_
  refine tl_c rfl (o_call bd37 rfl (within_f _ q (P.seen.length : Nat) (by omega))) ?_
  rintro _ _ ⟨rfl, rfl⟩
  refine tl_env (d := 18) (v := .int .i64 ((wi q P.seen.length : Nat) : Int)) (by show Value.int .i64 (q % (P.seen.length : Int)) = _; rw [wi_cast hw0]) ?_
  refine tl_v rfl (o_assign rfl) ?_
  refine tl_nil ?_
  refine q_then_n ?_
  refine tc_seq ?_
  refine tc_reg ?_
  refine tl_v rfl (o_move rfl) ?_
  refine tl_v rfl (o_quoN (a := wi q P.seen.length) (b := 8) rfl rfl (by omega)) ?_
  refine tl_v rfl (o_assign rfl) ?_
  refine tl_nil ?_
  refine q_then_n ?_
  refine tc_seq ?_
  refine tc_seq ?_
  refine tc_reg ?_
  refine tl_v rfl (o_fieldAddr (o := 0) Try.underlying76 rfl rfl sz3 rfl) ?_
  refine tl_v rfl (o_load p3 rfl (by repeat (first | exact has_here | exact has_pt | apply has_left)) rfl) ?_
  refine tl_nil ?_
  refine q_then_n ?_
  refine tc_block ?_
  refine tc_seq ?_
  refine tc_seq ?_
  refine tc_reg ?_
  refine tl_v rfl (o_eqi rfl rfl) ?_
  refine tl_v rfl (o_assign rfl) ?_
  refine tl_nil ?_
  refine q_then_n ?_
  refine tc_cond rfl (fun h => ?_) (fun h => ?_)
  · have hk : k = 2 ∨ k = 3 := .inl hk2
    refine tc_env (d := 23) (v := .bool true) (by show Value.bool (decide (k = 2)) = .bool true; simp [hk2]) ?_
    refine tc_skip ?_
    refine q_then_n ?_
    refine tc_cond_t rfl ?_
    refine tc_seq ?_
    refine tc_cut (fun ρ A => ρ 0 = .pointer (some ⟨p, 0, none⟩) ∧ ρ 3 = .pointer (some ⟨b3, 0, none⟩) ∧ ρ 6 = .int .i64 (wi q P.seen.length : Nat) ∧ ρ 7 = .int .i64 (wi q P.seen.length / 8 : Nat) ∧ A = F * R * pt p (cl (pcs d (.slice (some ⟨bs, os, none⟩) P.seen.length cs) (.slice (some ⟨bh, oh, none⟩) P.seen.length ch) (.slice (some ⟨bl, ol, none⟩) P.seen.length cL) (.slice (some ⟨bu, ou, none⟩) P.seen.length cu) (.slice (some ⟨bm, om, none⟩) P.marks.length cm)) 46) * Sl 1 (.slice (some ⟨bs, os, none⟩) P.seen.length cs) P.seen.length ((wds P.seen).set (wi q P.seen.length) (.int .u64 (v : Nat))) * Sl 1 (.slice (some ⟨bh, oh, none⟩) P.seen.length ch) P.seen.length (hvs) * Sl 1 (.slice (some ⟨bl, ol, none⟩) P.seen.length cL) P.seen.length (wds P.last) * Sl 1 (.slice (some ⟨bu, ou, none⟩) P.seen.length cu) P.seen.length (bos P.sure) * Sl 1 (.slice (some ⟨bm, om, none⟩) P.marks.length cm) P.marks.length (ints P.marks) * Dev d P.s * pt b3 (cl [.int .i64 k, .int .i64 q, nv, .int .u64 (v : Nat), dv, kv, av] 76) * Sl 1 hvs[wi q P.seen.length] P.held[wi q P.seen.length].length (wds P.held[wi q P.seen.length])) ?_ ?_
    · skip
      refine tc_rega mo ?_
      show TA _ _ _ _ 9 #[false, false, false, false, false, false, false, false, false] _ _
      refine ta_pure (i := 0) (listed' := #[true, false, false, false, false, false, false, false, false]) rfl (by kernel_rfl) (by kernel_rfl) (by kernel_rfl) rfl rfl (o_move rfl) ?_
      refine ta_pure (i := 1) (listed' := #[true, true, false, false, false, false, false, false, false]) rfl (by kernel_rfl) (by kernel_rfl) (by kernel_rfl) rfl rfl (o_nilCheck rfl) ?_
      refine ta_pure (i := 2) (listed' := #[true, true, true, false, false, false, false, false, false]) rfl (by kernel_rfl) (by kernel_rfl) (by kernel_rfl) rfl rfl (o_fieldAddr (o := 1) Try.underlying46 rfl rfl sz42 rfl) ?_
      refine ta_pure (i := 4) (listed' := #[true, true, true, false, true, false, false, false, false]) rfl (by kernel_rfl) (by kernel_rfl) (by kernel_rfl) rfl rfl (o_move rfl) ?_
      refine ta_pure (i := 5) (listed' := #[true, true, true, false, true, true, false, false, false]) rfl (by kernel_rfl) (by kernel_rfl) (by kernel_rfl) rfl rfl (o_fieldAddr (o := 3) Try.underlying76 rfl rfl sz53 rfl) ?_
      refine ta_two (i := 3) (j := 6) (by kernel_rfl) ?_ ?_
      · skip
        refine oa_v (i := 3) (listed' := #[true, true, true, true, true, true, false, false, false]) rfl rfl rfl (o_load p42 rfl (by repeat (first | exact has_here | exact has_pt | apply has_left)) rfl) ?_
        refine ta_one (i := 6) (by kernel_rfl) ?_
        refine oa_v (i := 6) (listed' := #[true, true, true, true, true, true, true, false, false]) rfl rfl rfl (o_load p53 rfl (by repeat (first | exact has_here | exact has_pt | apply has_left)) rfl) ?_
        refine ta_pure (i := 7) (listed' := #[true, true, true, true, true, true, true, true, false]) rfl (by kernel_rfl) (by kernel_rfl) (by kernel_rfl) rfl rfl (o_indexAddrN1 (j := wi q P.seen.length) Try.underlying42 sz53 rfl rfl (by omega)) ?_
        refine ta_one (i := 8) (by kernel_rfl) ?_
        refine oa_u (i := 8) (listed' := #[true, true, true, true, true, true, true, true, true]) rfl rfl rfl (o_storeSl (i := wi q P.seen.length) sz53 rfl rfl rfl hwlt (by repeat (first | exact foc_here | apply foc_left)) ) ?_
        refine ta_done (by kernel_rfl) ?_
        exact ⟨rfl, rfl, rfl, rfl, by rw [hW1]; ac_rfl⟩
      · skip
        refine oa_v (i := 6) (listed' := #[true, true, true, false, true, true, true, false, false]) rfl rfl rfl (o_load p53 rfl (by repeat (first | exact has_here | exact has_pt | apply has_left)) rfl) ?_
        refine ta_one (i := 3) (by kernel_rfl) ?_
        refine oa_v (i := 3) (listed' := #[true, true, true, true, true, true, true, false, false]) rfl rfl rfl (o_load p42 rfl (by repeat (first | exact has_here | exact has_pt | apply has_left)) rfl) ?_
        refine ta_pure (i := 7) (listed' := #[true, true, true, true, true, true, true, true, false]) rfl (by kernel_rfl) (by kernel_rfl) (by kernel_rfl) rfl rfl (o_indexAddrN1 (j := wi q P.seen.length) Try.underlying42 sz53 rfl rfl (by omega)) ?_
        refine ta_one (i := 8) (by kernel_rfl) ?_
        refine oa_u (i := 8) (listed' := #[true, true, true, true, true, true, true, true, true]) rfl rfl rfl (o_storeSl (i := wi q P.seen.length) sz53 rfl rfl rfl hwlt (by repeat (first | exact foc_here | apply foc_left)) ) ?_
        refine ta_done (by kernel_rfl) ?_
        exact ⟨rfl, rfl, rfl, rfl, by rw [hW1]; ac_rfl⟩
    · intro ρ A hI
      obtain ⟨h0, h3, h6, h7, rfl⟩ := hI
      refine q_then_n ?_
      refine tc_env (d := 0) h0 ?_
      refine tc_env (d := 3) h3 ?_
      refine tc_env (d := 6) h6 ?_
      refine tc_env (d := 7) h7 ?_
      refine tc_seq ?_
      refine tc_cut (fun ρ A => ∃ u, ρ 0 = .pointer (some ⟨p, 0, none⟩) ∧ ρ 3 = .pointer (some ⟨b3, 0, none⟩) ∧ ρ 6 = .int .i64 (wi q P.seen.length : Nat) ∧ ρ 7 = .int .i64 (wi q P.seen.length / 8 : Nat) ∧ A = F * Words (hvs.set (wi q P.seen.length) u) (P.held.set (wi q P.seen.length) (P.held[wi q P.seen.length] ++ [v])) * pt p (cl (pcs d (.slice (some ⟨bs, os, none⟩) P.seen.length cs) (.slice (some ⟨bh, oh, none⟩) P.seen.length ch) (.slice (some ⟨bl, ol, none⟩) P.seen.length cL) (.slice (some ⟨bu, ou, none⟩) P.seen.length cu) (.slice (some ⟨bm, om, none⟩) P.marks.length cm)) 46) * Sl 1 (.slice (some ⟨bs, os, none⟩) P.seen.length cs) P.seen.length ((wds P.seen).set (wi q P.seen.length) (.int .u64 (v : Nat))) * Sl 1 (.slice (some ⟨bh, oh, none⟩) P.seen.length ch) P.seen.length (hvs.set (wi q P.seen.length) u) * Sl 1 (.slice (some ⟨bl, ol, none⟩) P.seen.length cL) P.seen.length (wds P.last) * Sl 1 (.slice (some ⟨bu, ou, none⟩) P.seen.length cu) P.seen.length (bos P.sure) * Sl 1 (.slice (some ⟨bm, om, none⟩) P.marks.length cm) P.marks.length (ints P.marks) * Dev d P.s * pt b3 (cl [.int .i64 k, .int .i64 q, nv, .int .u64 (v : Nat), dv, kv, av] 76)) ?_ ?_
      · skip
        refine tc_rega mo ?_
        show TA _ _ _ _ 18 #[false, false, false, false, false, false, false, false, false, false, false, false, false, false, false, false, false, false] _ _
        refine ta_pure (i := 0) (listed' := #[true, false, false, false, false, false, false, false, false, false, false, false, false, false, false, false, false, false]) rfl (by kernel_rfl) (by kernel_rfl) (by kernel_rfl) rfl rfl (o_move rfl) ?_
        refine ta_pure (i := 1) (listed' := #[true, true, false, false, false, false, false, false, false, false, false, false, false, false, false, false, false, false]) rfl (by kernel_rfl) (by kernel_rfl) (by kernel_rfl) rfl rfl (o_nilCheck rfl) ?_
        refine ta_pure (i := 2) (listed' := #[true, true, true, false, false, false, false, false, false, false, false, false, false, false, false, false, false, false]) rfl (by kernel_rfl) (by kernel_rfl) (by kernel_rfl) rfl rfl (o_fieldAddr (o := 2) Try.underlying46 rfl rfl sz43 rfl) ?_
        refine ta_pure (i := 4) (listed' := #[true, true, true, false, true, false, false, false, false, false, false, false, false, false, false, false, false, false]) rfl (by kernel_rfl) (by kernel_rfl) (by kernel_rfl) rfl rfl (o_move rfl) ?_
        refine ta_pure (i := 5) (listed' := #[true, true, true, false, true, true, false, false, false, false, false, false, false, false, false, false, false, false]) rfl (by kernel_rfl) (by kernel_rfl) (by kernel_rfl) rfl rfl (o_move rfl) ?_
        refine ta_pure (i := 6) (listed' := #[true, true, true, false, true, true, true, false, false, false, false, false, false, false, false, false, false, false]) rfl (by kernel_rfl) (by kernel_rfl) (by kernel_rfl) rfl rfl (o_nilCheck rfl) ?_
        refine ta_pure (i := 7) (listed' := #[true, true, true, false, true, true, true, true, false, false, false, false, false, false, false, false, false, false]) rfl (by kernel_rfl) (by kernel_rfl) (by kernel_rfl) rfl rfl (o_fieldAddr (o := 2) Try.underlying46 rfl rfl sz43 rfl) ?_
        refine ta_pure (i := 9) (listed' := #[true, true, true, false, true, true, true, true, false, true, false, false, false, false, false, false, false, false]) rfl (by kernel_rfl) (by kernel_rfl) (by kernel_rfl) rfl rfl (o_move rfl) ?_
        refine ta_pure (i := 12) (listed' := #[true, true, true, false, true, true, true, true, false, true, false, false, true, false, false, false, false, false]) rfl (by kernel_rfl) (by kernel_rfl) (by kernel_rfl) rfl rfl (o_fieldAddr (o := 3) Try.underlying76 rfl rfl sz53 rfl) ?_
        refine ta_three (i := 3) (j := 8) (k := 13) (by kernel_rfl) ?_ ?_ ?_
        · skip
          refine oa_v (i := 3) (listed' := #[true, true, true, true, true, true, true, true, false, true, false, false, true, false, false, false, false, false]) rfl rfl rfl (o_load p43 rfl (by repeat (first | exact has_here | exact has_pt | apply has_left)) rfl) ?_
          refine ta_two (i := 8) (j := 13) (by kernel_rfl) ?_ ?_
          · skip
            refine oa_v (i := 8) (listed' := #[true, true, true, true, true, true, true, true, true, true, false, false, true, false, false, false, false, false]) rfl rfl rfl (o_load p43 rfl (by repeat (first | exact has_here | exact has_pt | apply has_left)) rfl) ?_
            refine ta_pure (i := 10) (listed' := #[true, true, true, true, true, true, true, true, true, true, true, false, true, false, false, false, false, false]) rfl (by kernel_rfl) (by kernel_rfl) (by kernel_rfl) rfl rfl (o_indexAddrN1 (j := wi q P.seen.length) Try.underlying43 sz42 rfl rfl (by omega)) ?_
            refine ta_two (i := 11) (j := 13) (by kernel_rfl) ?_ ?_
            · skip
              refine oa_v (i := 11) (listed' := #[true, true, true, true, true, true, true, true, true, true, true, true, true, false, false, false, false, false]) rfl rfl rfl (o_loadSl (k := 1) (i := wi q P.seen.length) (v := hvs[wi q P.seen.length]) (xs := hvs) (Y := Sl 1 (.slice (some ⟨bh, oh, none⟩) P.seen.length ch) P.seen.length hvs) p42 rfl (by repeat (first | exact foc_here | apply foc_left)) (List.getElem?_eq_getElem hwv)) ?_
              refine ta_one (i := 13) (by kernel_rfl) ?_
              refine oa_v (i := 13) (listed' := #[true, true, true, true, true, true, true, true, true, true, true, true, true, true, false, false, false, false]) rfl rfl rfl (o_load p53 rfl (by repeat (first | exact has_here | exact has_pt | apply has_left)) rfl) ?_
              refine ta_one (i := 14) (by kernel_rfl) ?_
              refine oa_x (i := 14) (listed' := #[true, true, true, true, true, true, true, true, true, true, true, true, true, true, true, false, false, false]) rfl rfl rfl (o_buildSlice1 (v := .int .u64 (v : Nat)) Try.underlying42 sz53 z53 rfl rfl) ?_
              rintro _ _ ⟨b48, rfl, rfl⟩
              refine ta_one (i := 15) (by kernel_rfl) ?_
              refine oa_x (i := 15) (listed' := #[true, true, true, true, true, true, true, true, true, true, true, true, true, true, true, true, false, false]) rfl rfl rfl (o_append1 Try.underlying42 Try.underlying42 sz53 by53 z53 rfl (by decide) (by decide) rfl rfl rfl rfl rfl (by omega)) ?_
              rintro u49 _ rfl
              refine ta_have (fun _ _ h => sl_have h) fun ⟨_, _, hu, _, _, _⟩ => ?_
              have hu1 : oneC u49 = true := by rw [hu]; rfl
              refine ta_pure (i := 16) (listed' := #[true, true, true, true, true, true, true, true, true, true, true, true, true, true, true, true, true, false]) rfl (by kernel_rfl) (by kernel_rfl) (by kernel_rfl) rfl rfl (o_indexAddrN1 (j := wi q P.seen.length) Try.underlying43 sz42 rfl rfl (by omega)) ?_
              refine ta_one (i := 17) (by kernel_rfl) ?_
              refine oa_u (i := 17) (listed' := #[true, true, true, true, true, true, true, true, true, true, true, true, true, true, true, true, true, true]) rfl rfl rfl (o_storeSl (i := wi q P.seen.length) sz42 rfl rfl hu1 hwlt (by repeat (first | exact foc_here | apply foc_left)) ) ?_
              refine ta_done (by kernel_rfl) ?_
              exact ⟨u49, rfl, rfl, rfl, rfl, by rw [hW3]; ac_rfl⟩
            · skip
              refine oa_v (i := 13) (listed' := #[true, true, true, true, true, true, true, true, true, true, true, false, true, true, false, false, false, false]) rfl rfl rfl (o_load p53 rfl (by repeat (first | exact has_here | exact has_pt | apply has_left)) rfl) ?_
              refine ta_two (i := 11) (j := 14) (by kernel_rfl) ?_ ?_
              · skip
                refine oa_v (i := 11) (listed' := #[true, true, true, true, true, true, true, true, true, true, true, true, true, true, false, false, false, false]) rfl rfl rfl (o_loadSl (k := 1) (i := wi q P.seen.length) (v := hvs[wi q P.seen.length]) (xs := hvs) (Y := Sl 1 (.slice (some ⟨bh, oh, none⟩) P.seen.length ch) P.seen.length hvs) p42 rfl (by repeat (first | exact foc_here | apply foc_left)) (List.getElem?_eq_getElem hwv)) ?_
                refine ta_one (i := 14) (by kernel_rfl) ?_
                refine oa_x (i := 14) (listed' := #[true, true, true, true, true, true, true, true, true, true, true, true, true, true, true, false, false, false]) rfl rfl rfl (o_buildSlice1 (v := .int .u64 (v : Nat)) Try.underlying42 sz53 z53 rfl rfl) ?_
                rintro _ _ ⟨b48, rfl, rfl⟩
                refine ta_one (i := 15) (by kernel_rfl) ?_
                refine oa_x (i := 15) (listed' := #[true, true, true, true, true, true, true, true, true, true, true, true, true, true, true, true, false, false]) rfl rfl rfl (o_append1 Try.underlying42 Try.underlying42 sz53 by53 z53 rfl (by decide) (by decide) rfl rfl rfl rfl rfl (by omega)) ?_
                rintro u49 _ rfl
                refine ta_have (fun _ _ h => sl_have h) fun ⟨_, _, hu, _, _, _⟩ => ?_
                have hu1 : oneC u49 = true := by rw [hu]; rfl
                refine ta_pure (i := 16) (listed' := #[true, true, true, true, true, true, true, true, true, true, true, true, true, true, true, true, true, false]) rfl (by kernel_rfl) (by kernel_rfl) (by kernel_rfl) rfl rfl (o_indexAddrN1 (j := wi q P.seen.length) Try.underlying43 sz42 rfl rfl (by omega)) ?_
                refine ta_one (i := 17) (by kernel_rfl) ?_
                refine oa_u (i := 17) (listed' := #[true, true, true, true, true, true, true, true, true, true, true, true, true, true, true, true, true, true]) rfl rfl rfl (o_storeSl (i := wi q P.seen.length) sz42 rfl rfl hu1 hwlt (by repeat (first | exact foc_here | apply foc_left)) ) ?_
                refine ta_done (by kernel_rfl) ?_
                exact ⟨u49, rfl, rfl, rfl, rfl, by rw [hW3]; ac_rfl⟩
              · skip
                refine oa_x (i := 14) (listed' := #[true, true, true, true, true, true, true, true, true, true, true, false, true, true, true, false, false, false]) rfl rfl rfl (o_buildSlice1 (v := .int .u64 (v : Nat)) Try.underlying42 sz53 z53 rfl rfl) ?_
                rintro _ _ ⟨b48, rfl, rfl⟩
                refine ta_one (i := 11) (by kernel_rfl) ?_
                refine oa_v (i := 11) (listed' := #[true, true, true, true, true, true, true, true, true, true, true, true, true, true, true, false, false, false]) rfl rfl rfl (o_loadSl (k := 1) (i := wi q P.seen.length) (v := hvs[wi q P.seen.length]) (xs := hvs) (Y := Sl 1 (.slice (some ⟨bh, oh, none⟩) P.seen.length ch) P.seen.length hvs) p42 rfl (by repeat (first | exact foc_here | apply foc_left)) (List.getElem?_eq_getElem hwv)) ?_
                refine ta_one (i := 15) (by kernel_rfl) ?_
                refine oa_x (i := 15) (listed' := #[true, true, true, true, true, true, true, true, true, true, true, true, true, true, true, true, false, false]) rfl rfl rfl (o_append1 Try.underlying42 Try.underlying42 sz53 by53 z53 rfl (by decide) (by decide) rfl rfl rfl rfl rfl (by omega)) ?_
                rintro u49 _ rfl
                refine ta_have (fun _ _ h => sl_have h) fun ⟨_, _, hu, _, _, _⟩ => ?_
                have hu1 : oneC u49 = true := by rw [hu]; rfl
                refine ta_pure (i := 16) (listed' := #[true, true, true, true, true, true, true, true, true, true, true, true, true, true, true, true, true, false]) rfl (by kernel_rfl) (by kernel_rfl) (by kernel_rfl) rfl rfl (o_indexAddrN1 (j := wi q P.seen.length) Try.underlying43 sz42 rfl rfl (by omega)) ?_
                refine ta_one (i := 17) (by kernel_rfl) ?_
                refine oa_u (i := 17) (listed' := #[true, true, true, true, true, true, true, true, true, true, true, true, true, true, true, true, true, true]) rfl rfl rfl (o_storeSl (i := wi q P.seen.length) sz42 rfl rfl hu1 hwlt (by repeat (first | exact foc_here | apply foc_left)) ) ?_
                refine ta_done (by kernel_rfl) ?_
                exact ⟨u49, rfl, rfl, rfl, rfl, by rw [hW3]; ac_rfl⟩
          · skip
            refine oa_v (i := 13) (listed' := #[true, true, true, true, true, true, true, true, false, true, false, false, true, true, false, false, false, false]) rfl rfl rfl (o_load p53 rfl (by repeat (first | exact has_here | exact has_pt | apply has_left)) rfl) ?_
            refine ta_two (i := 8) (j := 14) (by kernel_rfl) ?_ ?_
            · skip
              refine oa_v (i := 8) (listed' := #[true, true, true, true, true, true, true, true, true, true, false, false, true, true, false, false, false, false]) rfl rfl rfl (o_load p43 rfl (by repeat (first | exact has_here | exact has_pt | apply has_left)) rfl) ?_
              refine ta_pure (i := 10) (listed' := #[true, true, true, true, true, true, true, true, true, true, true, false, true, true, false, false, false, false]) rfl (by kernel_rfl) (by kernel_rfl) (by kernel_rfl) rfl rfl (o_indexAddrN1 (j := wi q P.seen.length) Try.underlying43 sz42 rfl rfl (by omega)) ?_
              refine ta_two (i := 11) (j := 14) (by kernel_rfl) ?_ ?_
              · skip
                refine oa_v (i := 11) (listed' := #[true, true, true, true, true, true, true, true, true, true, true, true, true, true, false, false, false, false]) rfl rfl rfl (o_loadSl (k := 1) (i := wi q P.seen.length) (v := hvs[wi q P.seen.length]) (xs := hvs) (Y := Sl 1 (.slice (some ⟨bh, oh, none⟩) P.seen.length ch) P.seen.length hvs) p42 rfl (by repeat (first | exact foc_here | apply foc_left)) (List.getElem?_eq_getElem hwv)) ?_
                refine ta_one (i := 14) (by kernel_rfl) ?_
                refine oa_x (i := 14) (listed' := #[true, true, true, true, true, true, true, true, true, true, true, true, true, true, true, false, false, false]) rfl rfl rfl (o_buildSlice1 (v := .int .u64 (v : Nat)) Try.underlying42 sz53 z53 rfl rfl) ?_
                rintro _ _ ⟨b48, rfl, rfl⟩
                refine ta_one (i := 15) (by kernel_rfl) ?_
                refine oa_x (i := 15) (listed' := #[true, true, true, true, true, true, true, true, true, true, true, true, true, true, true, true, false, false]) rfl rfl rfl (o_append1 Try.underlying42 Try.underlying42 sz53 by53 z53 rfl (by decide) (by decide) rfl rfl rfl rfl rfl (by omega)) ?_
                rintro u49 _ rfl
                refine ta_have (fun _ _ h => sl_have h) fun ⟨_, _, hu, _, _, _⟩ => ?_
                have hu1 : oneC u49 = true := by rw [hu]; rfl
                refine ta_pure (i := 16) (listed' := #[true, true, true, true, true, true, true, true, true, true, true, true, true, true, true, true, true, false]) rfl (by kernel_rfl) (by kernel_rfl) (by kernel_rfl) rfl rfl (o_indexAddrN1 (j := wi q P.seen.length) Try.underlying43 sz42 rfl rfl (by omega)) ?_
                refine ta_one (i := 17) (by kernel_rfl) ?_
                refine oa_u (i := 17) (listed' := #[true, true, true, true, true, true, true, true, true, true, true, true, true, true, true, true, true, true]) rfl rfl rfl (o_storeSl (i := wi q P.seen.length) sz42 rfl rfl hu1 hwlt (by repeat (first | exact foc_here | apply foc_left)) ) ?_
                refine ta_done (by kernel_rfl) ?_
                exact ⟨u49, rfl, rfl, rfl, rfl, by rw [hW3]; ac_rfl⟩
              · skip
                refine oa_x (i := 14) (listed' := #[true, true, true, true, true, true, true, true, true, true, true, false, true, true, true, false, false, false]) rfl rfl rfl (o_buildSlice1 (v := .int .u64 (v : Nat)) Try.underlying42 sz53 z53 rfl rfl) ?_
                rintro _ _ ⟨b48, rfl, rfl⟩
                refine ta_one (i := 11) (by kernel_rfl) ?_
                refine oa_v (i := 11) (listed' := #[true, true, true, true, true, true, true, true, true, true, true, true, true, true, true, false, false, false]) rfl rfl rfl (o_loadSl (k := 1) (i := wi q P.seen.length) (v := hvs[wi q P.seen.length]) (xs := hvs) (Y := Sl 1 (.slice (some ⟨bh, oh, none⟩) P.seen.length ch) P.seen.length hvs) p42 rfl (by repeat (first | exact foc_here | apply foc_left)) (List.getElem?_eq_getElem hwv)) ?_
                refine ta_one (i := 15) (by kernel_rfl) ?_
                refine oa_x (i := 15) (listed' := #[true, true, true, true, true, true, true, true, true, true, true, true, true, true, true, true, false, false]) rfl rfl rfl (o_append1 Try.underlying42 Try.underlying42 sz53 by53 z53 rfl (by decide) (by decide) rfl rfl rfl rfl rfl (by omega)) ?_
                rintro u49 _ rfl
                refine ta_have (fun _ _ h => sl_have h) fun ⟨_, _, hu, _, _, _⟩ => ?_
                have hu1 : oneC u49 = true := by rw [hu]; rfl
                refine ta_pure (i := 16) (listed' := #[true, true, true, true, true, true, true, true, true, true, true, true, true, true, true, true, true, false]) rfl (by kernel_rfl) (by kernel_rfl) (by kernel_rfl) rfl rfl (o_indexAddrN1 (j := wi q P.seen.length) Try.underlying43 sz42 rfl rfl (by omega)) ?_
                refine ta_one (i := 17) (by kernel_rfl) ?_
                refine oa_u (i := 17) (listed' := #[true, true, true, true, true, true, true, true, true, true, true, true, true, true, true, true, true, true]) rfl rfl rfl (o_storeSl (i := wi q P.seen.length) sz42 rfl rfl hu1 hwlt (by repeat (first | exact foc_here | apply foc_left)) ) ?_
                refine ta_done (by kernel_rfl) ?_
                exact ⟨u49, rfl, rfl, rfl, rfl, by rw [hW3]; ac_rfl⟩
            · skip
              refine oa_x (i := 14) (listed' := #[true, true, true, true, true, true, true, true, false, true, false, false, true, true, true, false, false, false]) rfl rfl rfl (o_buildSlice1 (v := .int .u64 (v : Nat)) Try.underlying42 sz53 z53 rfl rfl) ?_
              rintro _ _ ⟨b48, rfl, rfl⟩
              refine ta_one (i := 8) (by kernel_rfl) ?_
              refine oa_v (i := 8) (listed' := #[true, true, true, true, true, true, true, true, true, true, false, false, true, true, true, false, false, false]) rfl rfl rfl (o_load p43 rfl (by repeat (first | exact has_here | exact has_pt | apply has_left)) rfl) ?_
              refine ta_pure (i := 10) (listed' := #[true, true, true, true, true, true, true, true, true, true, true, false, true, true, true, false, false, false]) rfl (by kernel_rfl) (by kernel_rfl) (by kernel_rfl) rfl rfl (o_indexAddrN1 (j := wi q P.seen.length) Try.underlying43 sz42 rfl rfl (by omega)) ?_
              refine ta_one (i := 11) (by kernel_rfl) ?_
              refine oa_v (i := 11) (listed' := #[true, true, true, true, true, true, true, true, true, true, true, true, true, true, true, false, false, false]) rfl rfl rfl (o_loadSl (k := 1) (i := wi q P.seen.length) (v := hvs[wi q P.seen.length]) (xs := hvs) (Y := Sl 1 (.slice (some ⟨bh, oh, none⟩) P.seen.length ch) P.seen.length hvs) p42 rfl (by repeat (first | exact foc_here | apply foc_left)) (List.getElem?_eq_getElem hwv)) ?_
              refine ta_one (i := 15) (by kernel_rfl) ?_
              refine oa_x (i := 15) (listed' := #[true, true, true, true, true, true, true, true, true, true, true, true, true, true, true, true, false, false]) rfl rfl rfl (o_append1 Try.underlying42 Try.underlying42 sz53 by53 z53 rfl (by decide) (by decide) rfl rfl rfl rfl rfl (by omega)) ?_
              rintro u49 _ rfl
              refine ta_have (fun _ _ h => sl_have h) fun ⟨_, _, hu, _, _, _⟩ => ?_
              have hu1 : oneC u49 = true := by rw [hu]; rfl
              refine ta_pure (i := 16) (listed' := #[true, true, true, true, true, true, true, true, true, true, true, true, true, true, true, true, true, false]) rfl (by kernel_rfl) (by kernel_rfl) (by kernel_rfl) rfl rfl (o_indexAddrN1 (j := wi q P.seen.length) Try.underlying43 sz42 rfl rfl (by omega)) ?_
              refine ta_one (i := 17) (by kernel_rfl) ?_
              refine oa_u (i := 17) (listed' := #[true, true, true, true, true, true, true, true, true, true, true, true, true, true, true, true, true, true]) rfl rfl rfl (o_storeSl (i := wi q P.seen.length) sz42 rfl rfl hu1 hwlt (by repeat (first | exact foc_here | apply foc_left)) ) ?_
              refine ta_done (by kernel_rfl) ?_
              exact ⟨u49, rfl, rfl, rfl, rfl, by rw [hW3]; ac_rfl⟩
        · skip
          refine oa_v (i := 8) (listed' := #[true, true, true, false, true, true, true, true, true, true, false, false, true, false, false, false, false, false]) rfl rfl rfl (o_load p43 rfl (by repeat (first | exact has_here | exact has_pt | apply has_left)) rfl) ?_
          refine ta_pure (i := 10) (listed' := #[true, true, true, false, true, true, true, true, true, true, true, false, true, false, false, false, false, false]) rfl (by kernel_rfl) (by kernel_rfl) (by kernel_rfl) rfl rfl (o_indexAddrN1 (j := wi q P.seen.length) Try.underlying43 sz42 rfl rfl (by omega)) ?_
          refine ta_three (i := 3) (j := 11) (k := 13) (by kernel_rfl) ?_ ?_ ?_
          · skip
            refine oa_v (i := 3) (listed' := #[true, true, true, true, true, true, true, true, true, true, true, false, true, false, false, false, false, false]) rfl rfl rfl (o_load p43 rfl (by repeat (first | exact has_here | exact has_pt | apply has_left)) rfl) ?_
            refine ta_two (i := 11) (j := 13) (by kernel_rfl) ?_ ?_
            · skip
              refine oa_v (i := 11) (listed' := #[true, true, true, true, true, true, true, true, true, true, true, true, true, false, false, false, false, false]) rfl rfl rfl (o_loadSl (k := 1) (i := wi q P.seen.length) (v := hvs[wi q P.seen.length]) (xs := hvs) (Y := Sl 1 (.slice (some ⟨bh, oh, none⟩) P.seen.length ch) P.seen.length hvs) p42 rfl (by repeat (first | exact foc_here | apply foc_left)) (List.getElem?_eq_getElem hwv)) ?_
              refine ta_one (i := 13) (by kernel_rfl) ?_
              refine oa_v (i := 13) (listed' := #[true, true, true, true, true, true, true, true, true, true, true, true, true, true, false, false, false, false]) rfl rfl rfl (o_load p53 rfl (by repeat (first | exact has_here | exact has_pt | apply has_left)) rfl) ?_
              refine ta_one (i := 14) (by kernel_rfl) ?_
              refine oa_x (i := 14) (listed' := #[true, true, true, true, true, true, true, true, true, true, true, true, true, true, true, false, false, false]) rfl rfl rfl (o_buildSlice1 (v := .int .u64 (v : Nat)) Try.underlying42 sz53 z53 rfl rfl) ?_
              rintro _ _ ⟨b48, rfl, rfl⟩
              refine ta_one (i := 15) (by kernel_rfl) ?_
              refine oa_x (i := 15) (listed' := #[true, true, true, true, true, true, true, true, true, true, true, true, true, true, true, true, false, false]) rfl rfl rfl (o_append1 Try.underlying42 Try.underlying42 sz53 by53 z53 rfl (by decide) (by decide) rfl rfl rfl rfl rfl (by omega)) ?_
              rintro u49 _ rfl
              refine ta_have (fun _ _ h => sl_have h) fun ⟨_, _, hu, _, _, _⟩ => ?_
              have hu1 : oneC u49 = true := by rw [hu]; rfl
              refine ta_pure (i := 16) (listed' := #[true, true, true, true, true, true, true, true, true, true, true, true, true, true, true, true, true, false]) rfl (by kernel_rfl) (by kernel_rfl) (by kernel_rfl) rfl rfl (o_indexAddrN1 (j := wi q P.seen.length) Try.underlying43 sz42 rfl rfl (by omega)) ?_
              refine ta_one (i := 17) (by kernel_rfl) ?_
              refine oa_u (i := 17) (listed' := #[true, true, true, true, true, true, true, true, true, true, true, true, true, true, true, true, true, true]) rfl rfl rfl (o_storeSl (i := wi q P.seen.length) sz42 rfl rfl hu1 hwlt (by repeat (first | exact foc_here | apply foc_left)) ) ?_
              refine ta_done (by kernel_rfl) ?_
              exact ⟨u49, rfl, rfl, rfl, rfl, by rw [hW3]; ac_rfl⟩
            · skip
              refine oa_v (i := 13) (listed' := #[true, true, true, true, true, true, true, true, true, true, true, false, true, true, false, false, false, false]) rfl rfl rfl (o_load p53 rfl (by repeat (first | exact has_here | exact has_pt | apply has_left)) rfl) ?_
              refine ta_two (i := 11) (j := 14) (by kernel_rfl) ?_ ?_
              · skip
                refine oa_v (i := 11) (listed' := #[true, true, true, true, true, true, true, true, true, true, true, true, true, true, false, false, false, false]) rfl rfl rfl (o_loadSl (k := 1) (i := wi q P.seen.length) (v := hvs[wi q P.seen.length]) (xs := hvs) (Y := Sl 1 (.slice (some ⟨bh, oh, none⟩) P.seen.length ch) P.seen.length hvs) p42 rfl (by repeat (first | exact foc_here | apply foc_left)) (List.getElem?_eq_getElem hwv)) ?_
                refine ta_one (i := 14) (by kernel_rfl) ?_
                refine oa_x (i := 14) (listed' := #[true, true, true, true, true, true, true, true, true, true, true, true, true, true, true, false, false, false]) rfl rfl rfl (o_buildSlice1 (v := .int .u64 (v : Nat)) Try.underlying42 sz53 z53 rfl rfl) ?_
                rintro _ _ ⟨b48, rfl, rfl⟩
                refine ta_one (i := 15) (by kernel_rfl) ?_
                refine oa_x (i := 15) (listed' := #[true, true, true, true, true, true, true, true, true, true, true, true, true, true, true, true, false, false]) rfl rfl rfl (o_append1 Try.underlying42 Try.underlying42 sz53 by53 z53 rfl (by decide) (by decide) rfl rfl rfl rfl rfl (by omega)) ?_
                rintro u49 _ rfl
                refine ta_have (fun _ _ h => sl_have h) fun ⟨_, _, hu, _, _, _⟩ => ?_
                have hu1 : oneC u49 = true := by rw [hu]; rfl
                refine ta_pure (i := 16) (listed' := #[true, true, true, true, true, true, true, true, true, true, true, true, true, true, true, true, true, false]) rfl (by kernel_rfl) (by kernel_rfl) (by kernel_rfl) rfl rfl (o_indexAddrN1 (j := wi q P.seen.length) Try.underlying43 sz42 rfl rfl (by omega)) ?_
                refine ta_one (i := 17) (by kernel_rfl) ?_
                refine oa_u (i := 17) (listed' := #[true, true, true, true, true, true, true, true, true, true, true, true, true, true, true, true, true, true]) rfl rfl rfl (o_storeSl (i := wi q P.seen.length) sz42 rfl rfl hu1 hwlt (by repeat (first | exact foc_here | apply foc_left)) ) ?_
                refine ta_done (by kernel_rfl) ?_
                exact ⟨u49, rfl, rfl, rfl, rfl, by rw [hW3]; ac_rfl⟩
              · skip
                refine oa_x (i := 14) (listed' := #[true, true, true, true, true, true, true, true, true, true, true, false, true, true, true, false, false, false]) rfl rfl rfl (o_buildSlice1 (v := .int .u64 (v : Nat)) Try.underlying42 sz53 z53 rfl rfl) ?_
                rintro _ _ ⟨b48, rfl, rfl⟩
                refine ta_one (i := 11) (by kernel_rfl) ?_
                refine oa_v (i := 11) (listed' := #[true, true, true, true, true, true, true, true, true, true, true, true, true, true, true, false, false, false]) rfl rfl rfl (o_loadSl (k := 1) (i := wi q P.seen.length) (v := hvs[wi q P.seen.length]) (xs := hvs) (Y := Sl 1 (.slice (some ⟨bh, oh, none⟩) P.seen.length ch) P.seen.length hvs) p42 rfl (by repeat (first | exact foc_here | apply foc_left)) (List.getElem?_eq_getElem hwv)) ?_
                refine ta_one (i := 15) (by kernel_rfl) ?_
                refine oa_x (i := 15) (listed' := #[true, true, true, true, true, true, true, true, true, true, true, true, true, true, true, true, false, false]) rfl rfl rfl (o_append1 Try.underlying42 Try.underlying42 sz53 by53 z53 rfl (by decide) (by decide) rfl rfl rfl rfl rfl (by omega)) ?_
                rintro u49 _ rfl
                refine ta_have (fun _ _ h => sl_have h) fun ⟨_, _, hu, _, _, _⟩ => ?_
                have hu1 : oneC u49 = true := by rw [hu]; rfl
                refine ta_pure (i := 16) (listed' := #[true, true, true, true, true, true, true, true, true, true, true, true, true, true, true, true, true, false]) rfl (by kernel_rfl) (by kernel_rfl) (by kernel_rfl) rfl rfl (o_indexAddrN1 (j := wi q P.seen.length) Try.underlying43 sz42 rfl rfl (by omega)) ?_
                refine ta_one (i := 17) (by kernel_rfl) ?_
                refine oa_u (i := 17) (listed' := #[true, true, true, true, true, true, true, true, true, true, true, true, true, true, true, true, true, true]) rfl rfl rfl (o_storeSl (i := wi q P.seen.length) sz42 rfl rfl hu1 hwlt (by repeat (first | exact foc_here | apply foc_left)) ) ?_
                refine ta_done (by kernel_rfl) ?_
                exact ⟨u49, rfl, rfl, rfl, rfl, by rw [hW3]; ac_rfl⟩
          · skip
            refine oa_v (i := 11) (listed' := #[true, true, true, false, true, true, true, true, true, true, true, true, true, false, false, false, false, false]) rfl rfl rfl (o_loadSl (k := 1) (i := wi q P.seen.length) (v := hvs[wi q P.seen.length]) (xs := hvs) (Y := Sl 1 (.slice (some ⟨bh, oh, none⟩) P.seen.length ch) P.seen.length hvs) p42 rfl (by repeat (first | exact foc_here | apply foc_left)) (List.getElem?_eq_getElem hwv)) ?_
            refine ta_two (i := 3) (j := 13) (by kernel_rfl) ?_ ?_
            · skip
              refine oa_v (i := 3) (listed' := #[true, true, true, true, true, true, true, true, true, true, true, true, true, false, false, false, false, false]) rfl rfl rfl (o_load p43 rfl (by repeat (first | exact has_here | exact has_pt | apply has_left)) rfl) ?_
              refine ta_one (i := 13) (by kernel_rfl) ?_
              refine oa_v (i := 13) (listed' := #[true, true, true, true, true, true, true, true, true, true, true, true, true, true, false, false, false, false]) rfl rfl rfl (o_load p53 rfl (by repeat (first | exact has_here | exact has_pt | apply has_left)) rfl) ?_
              refine ta_one (i := 14) (by kernel_rfl) ?_
              refine oa_x (i := 14) (listed' := #[true, true, true, true, true, true, true, true, true, true, true, true, true, true, true, false, false, false]) rfl rfl rfl (o_buildSlice1 (v := .int .u64 (v : Nat)) Try.underlying42 sz53 z53 rfl rfl) ?_
              rintro _ _ ⟨b48, rfl, rfl⟩
              refine ta_one (i := 15) (by kernel_rfl) ?_
              refine oa_x (i := 15) (listed' := #[true, true, true, true, true, true, true, true, true, true, true, true, true, true, true, true, false, false]) rfl rfl rfl (o_append1 Try.underlying42 Try.underlying42 sz53 by53 z53 rfl (by decide) (by decide) rfl rfl rfl rfl rfl (by omega)) ?_
              rintro u49 _ rfl
              refine ta_have (fun _ _ h => sl_have h) fun ⟨_, _, hu, _, _, _⟩ => ?_
              have hu1 : oneC u49 = true := by rw [hu]; rfl
              refine ta_pure (i := 16) (listed' := #[true, true, true, true, true, true, true, true, true, true, true, true, true, true, true, true, true, false]) rfl (by kernel_rfl) (by kernel_rfl) (by kernel_rfl) rfl rfl (o_indexAddrN1 (j := wi q P.seen.length) Try.underlying43 sz42 rfl rfl (by omega)) ?_
              refine ta_one (i := 17) (by kernel_rfl) ?_
              refine oa_u (i := 17) (listed' := #[true, true, true, true, true, true, true, true, true, true, true, true, true, true, true, true, true, true]) rfl rfl rfl (o_storeSl (i := wi q P.seen.length) sz42 rfl rfl hu1 hwlt (by repeat (first | exact foc_here | apply foc_left)) ) ?_
              refine ta_done (by kernel_rfl) ?_
              exact ⟨u49, rfl, rfl, rfl, rfl, by rw [hW3]; ac_rfl⟩
            · skip
              refine oa_v (i := 13) (listed' := #[true, true, true, false, true, true, true, true, true, true, true, true, true, true, false, false, false, false]) rfl rfl rfl (o_load p53 rfl (by repeat (first | exact has_here | exact has_pt | apply has_left)) rfl) ?_
              refine ta_two (i := 3) (j := 14) (by kernel_rfl) ?_ ?_
              · skip
                refine oa_v (i := 3) (listed' := #[true, true, true, true, true, true, true, true, true, true, true, true, true, true, false, false, false, false]) rfl rfl rfl (o_load p43 rfl (by repeat (first | exact has_here | exact has_pt | apply has_left)) rfl) ?_
                refine ta_one (i := 14) (by kernel_rfl) ?_
                refine oa_x (i := 14) (listed' := #[true, true, true, true, true, true, true, true, true, true, true, true, true, true, true, false, false, false]) rfl rfl rfl (o_buildSlice1 (v := .int .u64 (v : Nat)) Try.underlying42 sz53 z53 rfl rfl) ?_
                rintro _ _ ⟨b48, rfl, rfl⟩
                refine ta_one (i := 15) (by kernel_rfl) ?_
                refine oa_x (i := 15) (listed' := #[true, true, true, true, true, true, true, true, true, true, true, true, true, true, true, true, false, false]) rfl rfl rfl (o_append1 Try.underlying42 Try.underlying42 sz53 by53 z53 rfl (by decide) (by decide) rfl rfl rfl rfl rfl (by omega)) ?_
                rintro u49 _ rfl
                refine ta_have (fun _ _ h => sl_have h) fun ⟨_, _, hu, _, _, _⟩ => ?_
                have hu1 : oneC u49 = true := by rw [hu]; rfl
                refine ta_pure (i := 16) (listed' := #[true, true, true, true, true, true, true, true, true, true, true, true, true, true, true, true, true, false]) rfl (by kernel_rfl) (by kernel_rfl) (by kernel_rfl) rfl rfl (o_indexAddrN1 (j := wi q P.seen.length) Try.underlying43 sz42 rfl rfl (by omega)) ?_
                refine ta_one (i := 17) (by kernel_rfl) ?_
                refine oa_u (i := 17) (listed' := #[true, true, true, true, true, true, true, true, true, true, true, true, true, true, true, true, true, true]) rfl rfl rfl (o_storeSl (i := wi q P.seen.length) sz42 rfl rfl hu1 hwlt (by repeat (first | exact foc_here | apply foc_left)) ) ?_
                refine ta_done (by kernel_rfl) ?_
                exact ⟨u49, rfl, rfl, rfl, rfl, by rw [hW3]; ac_rfl⟩
              · skip
                refine oa_x (i := 14) (listed' := #[true, true, true, false, true, true, true, true, true, true, true, true, true, true, true, false, false, false]) rfl rfl rfl (o_buildSlice1 (v := .int .u64 (v : Nat)) Try.underlying42 sz53 z53 rfl rfl) ?_
                rintro _ _ ⟨b48, rfl, rfl⟩
                refine ta_two (i := 3) (j := 15) (by kernel_rfl) ?_ ?_
                · skip
                  refine oa_v (i := 3) (listed' := #[true, true, true, true, true, true, true, true, true, true, true, true, true, true, true, false, false, false]) rfl rfl rfl (o_load p43 rfl (by repeat (first | exact has_here | exact has_pt | apply has_left)) rfl) ?_
                  refine ta_one (i := 15) (by kernel_rfl) ?_
                  refine oa_x (i := 15) (listed' := #[true, true, true, true, true, true, true, true, true, true, true, true, true, true, true, true, false, false]) rfl rfl rfl (o_append1 Try.underlying42 Try.underlying42 sz53 by53 z53 rfl (by decide) (by decide) rfl rfl rfl rfl rfl (by omega)) ?_
                  rintro u49 _ rfl
                  refine ta_have (fun _ _ h => sl_have h) fun ⟨_, _, hu, _, _, _⟩ => ?_
                  have hu1 : oneC u49 = true := by rw [hu]; rfl
                  refine ta_pure (i := 16) (listed' := #[true, true, true, true, true, true, true, true, true, true, true, true, true, true, true, true, true, false]) rfl (by kernel_rfl) (by kernel_rfl) (by kernel_rfl) rfl rfl (o_indexAddrN1 (j := wi q P.seen.length) Try.underlying43 sz42 rfl rfl (by omega)) ?_
                  refine ta_one (i := 17) (by kernel_rfl) ?_
                  refine oa_u (i := 17) (listed' := #[true, true, true, true, true, true, true, true, true, true, true, true, true, true, true, true, true, true]) rfl rfl rfl (o_storeSl (i := wi q P.seen.length) sz42 rfl rfl hu1 hwlt (by repeat (first | exact foc_here | apply foc_left)) ) ?_
                  refine ta_done (by kernel_rfl) ?_
                  exact ⟨u49, rfl, rfl, rfl, rfl, by rw [hW3]; ac_rfl⟩
                · skip
                  refine oa_x (i := 15) (listed' := #[true, true, true, false, true, true, true, true, true, true, true, true, true, true, true, true, false, false]) rfl rfl rfl (o_append1 Try.underlying42 Try.underlying42 sz53 by53 z53 rfl (by decide) (by decide) rfl rfl rfl rfl rfl (by omega)) ?_
                  rintro u49 _ rfl
                  refine ta_have (fun _ _ h => sl_have h) fun ⟨_, _, hu, _, _, _⟩ => ?_
                  have hu1 : oneC u49 = true := by rw [hu]; rfl
                  refine ta_one (i := 3) (by kernel_rfl) ?_
                  refine oa_v (i := 3) (listed' := #[true, true, true, true, true, true, true, true, true, true, true, true, true, true, true, true, false, false]) rfl rfl rfl (o_load p43 rfl (by repeat (first | exact has_here | exact has_pt | apply has_left)) rfl) ?_
                  refine ta_pure (i := 16) (listed' := #[true, true, true, true, true, true, true, true, true, true, true, true, true, true, true, true, true, false]) rfl (by kernel_rfl) (by kernel_rfl) (by kernel_rfl) rfl rfl (o_indexAddrN1 (j := wi q P.seen.length) Try.underlying43 sz42 rfl rfl (by omega)) ?_
                  refine ta_one (i := 17) (by kernel_rfl) ?_
                  refine oa_u (i := 17) (listed' := #[true, true, true, true, true, true, true, true, true, true, true, true, true, true, true, true, true, true]) rfl rfl rfl (o_storeSl (i := wi q P.seen.length) sz42 rfl rfl hu1 hwlt (by repeat (first | exact foc_here | apply foc_left)) ) ?_
                  refine ta_done (by kernel_rfl) ?_
                  exact ⟨u49, rfl, rfl, rfl, rfl, by rw [hW3]; ac_rfl⟩
          · skip
            refine oa_v (i := 13) (listed' := #[true, true, true, false, true, true, true, true, true, true, true, false, true, true, false, false, false, false]) rfl rfl rfl (o_load p53 rfl (by repeat (first | exact has_here | exact has_pt | apply has_left)) rfl) ?_
            refine ta_three (i := 3) (j := 11) (k := 14) (by kernel_rfl) ?_ ?_ ?_
            · skip
              refine oa_v (i := 3) (listed' := #[true, true, true, true, true, true, true, true, true, true, true, false, true, true, false, false, false, false]) rfl rfl rfl (o_load p43 rfl (by repeat (first | exact has_here | exact has_pt | apply has_left)) rfl) ?_
              refine ta_two (i := 11) (j := 14) (by kernel_rfl) ?_ ?_
              · skip
                refine oa_v (i := 11) (listed' := #[true, true, true, true, true, true, true, true, true, true, true, true, true, true, false, false, false, false]) rfl rfl rfl (o_loadSl (k := 1) (i := wi q P.seen.length) (v := hvs[wi q P.seen.length]) (xs := hvs) (Y := Sl 1 (.slice (some ⟨bh, oh, none⟩) P.seen.length ch) P.seen.length hvs) p42 rfl (by repeat (first | exact foc_here | apply foc_left)) (List.getElem?_eq_getElem hwv)) ?_
                refine ta_one (i := 14) (by kernel_rfl) ?_
                refine oa_x (i := 14) (listed' := #[true, true, true, true, true, true, true, true, true, true, true, true, true, true, true, false, false, false]) rfl rfl rfl (o_buildSlice1 (v := .int .u64 (v : Nat)) Try.underlying42 sz53 z53 rfl rfl) ?_
                rintro _ _ ⟨b48, rfl, rfl⟩
                refine ta_one (i := 15) (by kernel_rfl) ?_
                refine oa_x (i := 15) (listed' := #[true, true, true, true, true, true, true, true, true, true, true, true, true, true, true, true, false, false]) rfl rfl rfl (o_append1 Try.underlying42 Try.underlying42 sz53 by53 z53 rfl (by decide) (by decide) rfl rfl rfl rfl rfl (by omega)) ?_
                rintro u49 _ rfl
                refine ta_have (fun _ _ h => sl_have h) fun ⟨_, _, hu, _, _, _⟩ => ?_
                have hu1 : oneC u49 = true := by rw [hu]; rfl
                refine ta_pure (i := 16) (listed' := #[true, true, true, true, true, true, true, true, true, true, true, true, true, true, true, true, true, false]) rfl (by kernel_rfl) (by kernel_rfl) (by kernel_rfl) rfl rfl (o_indexAddrN1 (j := wi q P.seen.length) Try.underlying43 sz42 rfl rfl (by omega)) ?_
                refine ta_one (i := 17) (by kernel_rfl) ?_
                refine oa_u (i := 17) (listed' := #[true, true, true, true, true, true, true, true, true, true, true, true, true, true, true, true, true, true]) rfl rfl rfl (o_storeSl (i := wi q P.seen.length) sz42 rfl rfl hu1 hwlt (by repeat (first | exact foc_here | apply foc_left)) ) ?_
                refine ta_done (by kernel_rfl) ?_
                exact ⟨u49, rfl, rfl, rfl, rfl, by rw [hW3]; ac_rfl⟩
              · skip
                refine oa_x (i := 14) (listed' := #[true, true, true, true, true, true, true, true, true, true, true, false, true, true, true, false, false, false]) rfl rfl rfl (o_buildSlice1 (v := .int .u64 (v : Nat)) Try.underlying42 sz53 z53 rfl rfl) ?_
                rintro _ _ ⟨b48, rfl, rfl⟩
                refine ta_one (i := 11) (by kernel_rfl) ?_
                refine oa_v (i := 11) (listed' := #[true, true, true, true, true, true, true, true, true, true, true, true, true, true, true, false, false, false]) rfl rfl rfl (o_loadSl (k := 1) (i := wi q P.seen.length) (v := hvs[wi q P.seen.length]) (xs := hvs) (Y := Sl 1 (.slice (some ⟨bh, oh, none⟩) P.seen.length ch) P.seen.length hvs) p42 rfl (by repeat (first | exact foc_here | apply foc_left)) (List.getElem?_eq_getElem hwv)) ?_
                refine ta_one (i := 15) (by kernel_rfl) ?_
                refine oa_x (i := 15) (listed' := #[true, true, true, true, true, true, true, true, true, true, true, true, true, true, true, true, false, false]) rfl rfl rfl (o_append1 Try.underlying42 Try.underlying42 sz53 by53 z53 rfl (by decide) (by decide) rfl rfl rfl rfl rfl (by omega)) ?_
                rintro u49 _ rfl
                refine ta_have (fun _ _ h => sl_have h) fun ⟨_, _, hu, _, _, _⟩ => ?_
                have hu1 : oneC u49 = true := by rw [hu]; rfl
                refine ta_pure (i := 16) (listed' := #[true, true, true, true, true, true, true, true, true, true, true, true, true, true, true, true, true, false]) rfl (by kernel_rfl) (by kernel_rfl) (by kernel_rfl) rfl rfl (o_indexAddrN1 (j := wi q P.seen.length) Try.underlying43 sz42 rfl rfl (by omega)) ?_
                refine ta_one (i := 17) (by kernel_rfl) ?_
                refine oa_u (i := 17) (listed' := #[true, true, true, true, true, true, true, true, true, true, true, true, true, true, true, true, true, true]) rfl rfl rfl (o_storeSl (i := wi q P.seen.length) sz42 rfl rfl hu1 hwlt (by repeat (first | exact foc_here | apply foc_left)) ) ?_
                refine ta_done (by kernel_rfl) ?_
                exact ⟨u49, rfl, rfl, rfl, rfl, by rw [hW3]; ac_rfl⟩
            · skip
              refine oa_v (i := 11) (listed' := #[true, true, true, false, true, true, true, true, true, true, true, true, true, true, false, false, false, false]) rfl rfl rfl (o_loadSl (k := 1) (i := wi q P.seen.length) (v := hvs[wi q P.seen.length]) (xs := hvs) (Y := Sl 1 (.slice (some ⟨bh, oh, none⟩) P.seen.length ch) P.seen.length hvs) p42 rfl (by repeat (first | exact foc_here | apply foc_left)) (List.getElem?_eq_getElem hwv)) ?_
              refine ta_two (i := 3) (j := 14) (by kernel_rfl) ?_ ?_
              · skip
                refine oa_v (i := 3) (listed' := #[true, true, true, true, true, true, true, true, true, true, true, true, true, true, false, false, false, false]) rfl rfl rfl (o_load p43 rfl (by repeat (first | exact has_here | exact has_pt | apply has_left)) rfl) ?_
                refine ta_one (i := 14) (by kernel_rfl) ?_
                refine oa_x (i := 14) (listed' := #[true, true, true, true, true, true, true, true, true, true, true, true, true, true, true, false, false, false]) rfl rfl rfl (o_buildSlice1 (v := .int .u64 (v : Nat)) Try.underlying42 sz53 z53 rfl rfl) ?_
                rintro _ _ ⟨b48, rfl, rfl⟩
                refine ta_one (i := 15) (by kernel_rfl) ?_
                refine oa_x (i := 15) (listed' := #[true, true, true, true, true, true, true, true, true, true, true, true, true, true, true, true, false, false]) rfl rfl rfl (o_append1 Try.underlying42 Try.underlying42 sz53 by53 z53 rfl (by decide) (by decide) rfl rfl rfl rfl rfl (by omega)) ?_
                rintro u49 _ rfl
                refine ta_have (fun _ _ h => sl_have h) fun ⟨_, _, hu, _, _, _⟩ => ?_
                have hu1 : oneC u49 = true := by rw [hu]; rfl
                refine ta_pure (i := 16) (listed' := #[true, true, true, true, true, true, true, true, true, true, true, true, true, true, true, true, true, false]) rfl (by kernel_rfl) (by kernel_rfl) (by kernel_rfl) rfl rfl (o_indexAddrN1 (j := wi q P.seen.length) Try.underlying43 sz42 rfl rfl (by omega)) ?_
                refine ta_one (i := 17) (by kernel_rfl) ?_
                refine oa_u (i := 17) (listed' := #[true, true, true, true, true, true, true, true, true, true, true, true, true, true, true, true, true, true]) rfl rfl rfl (o_storeSl (i := wi q P.seen.length) sz42 rfl rfl hu1 hwlt (by repeat (first | exact foc_here | apply foc_left)) ) ?_
                refine ta_done (by kernel_rfl) ?_
                exact ⟨u49, rfl, rfl, rfl, rfl, by rw [hW3]; ac_rfl⟩
              · skip
                refine oa_x (i := 14) (listed' := #[true, true, true, false, true, true, true, true, true, true, true, true, true, true, true, false, false, false]) rfl rfl rfl (o_buildSlice1 (v := .int .u64 (v : Nat)) Try.underlying42 sz53 z53 rfl rfl) ?_
                rintro _ _ ⟨b48, rfl, rfl⟩
                refine ta_two (i := 3) (j := 15) (by kernel_rfl) ?_ ?_
                · skip
                  refine oa_v (i := 3) (listed' := #[true, true, true, true, true, true, true, true, true, true, true, true, true, true, true, false, false, false]) rfl rfl rfl (o_load p43 rfl (by repeat (first | exact has_here | exact has_pt | apply has_left)) rfl) ?_
                  refine ta_one (i := 15) (by kernel_rfl) ?_
                  refine oa_x (i := 15) (listed' := #[true, true, true, true, true, true, true, true, true, true, true, true, true, true, true, true, false, false]) rfl rfl rfl (o_append1 Try.underlying42 Try.underlying42 sz53 by53 z53 rfl (by decide) (by decide) rfl rfl rfl rfl rfl (by omega)) ?_
                  rintro u49 _ rfl
                  refine ta_have (fun _ _ h => sl_have h) fun ⟨_, _, hu, _, _, _⟩ => ?_
                  have hu1 : oneC u49 = true := by rw [hu]; rfl
                  refine ta_pure (i := 16) (listed' := #[true, true, true, true, true, true, true, true, true, true, true, true, true, true, true, true, true, false]) rfl (by kernel_rfl) (by kernel_rfl) (by kernel_rfl) rfl rfl (o_indexAddrN1 (j := wi q P.seen.length) Try.underlying43 sz42 rfl rfl (by omega)) ?_
                  refine ta_one (i := 17) (by kernel_rfl) ?_
                  refine oa_u (i := 17) (listed' := #[true, true, true, true, true, true, true, true, true, true, true, true, true, true, true, true, true, true]) rfl rfl rfl (o_storeSl (i := wi q P.seen.length) sz42 rfl rfl hu1 hwlt (by repeat (first | exact foc_here | apply foc_left)) ) ?_
                  refine ta_done (by kernel_rfl) ?_
                  exact ⟨u49, rfl, rfl, rfl, rfl, by rw [hW3]; ac_rfl⟩
                · skip
                  refine oa_x (i := 15) (listed' := #[true, true, true, false, true, true, true, true, true, true, true, true, true, true, true, true, false, false]) rfl rfl rfl (o_append1 Try.underlying42 Try.underlying42 sz53 by53 z53 rfl (by decide) (by decide) rfl rfl rfl rfl rfl (by omega)) ?_
                  rintro u49 _ rfl
                  refine ta_have (fun _ _ h => sl_have h) fun ⟨_, _, hu, _, _, _⟩ => ?_
                  have hu1 : oneC u49 = true := by rw [hu]; rfl
                  refine ta_one (i := 3) (by kernel_rfl) ?_
                  refine oa_v (i := 3) (listed' := #[true, true, true, true, true, true, true, true, true, true, true, true, true, true, true, true, false, false]) rfl rfl rfl (o_load p43 rfl (by repeat (first | exact has_here | exact has_pt | apply has_left)) rfl) ?_
                  refine ta_pure (i := 16) (listed' := #[true, true, true, true, true, true, true, true, true, true, true, true, true, true, true, true, true, false]) rfl (by kernel_rfl) (by kernel_rfl) (by kernel_rfl) rfl rfl (o_indexAddrN1 (j := wi q P.seen.length) Try.underlying43 sz42 rfl rfl (by omega)) ?_
                  refine ta_one (i := 17) (by kernel_rfl) ?_
                  refine oa_u (i := 17) (listed' := #[true, true, true, true, true, true, true, true, true, true, true, true, true, true, true, true, true, true]) rfl rfl rfl (o_storeSl (i := wi q P.seen.length) sz42 rfl rfl hu1 hwlt (by repeat (first | exact foc_here | apply foc_left)) ) ?_
                  refine ta_done (by kernel_rfl) ?_
                  exact ⟨u49, rfl, rfl, rfl, rfl, by rw [hW3]; ac_rfl⟩
            · skip
              refine oa_x (i := 14) (listed' := #[true, true, true, false, true, true, true, true, true, true, true, false, true, true, true, false, false, false]) rfl rfl rfl (o_buildSlice1 (v := .int .u64 (v : Nat)) Try.underlying42 sz53 z53 rfl rfl) ?_
              rintro _ _ ⟨b48, rfl, rfl⟩
              refine ta_two (i := 3) (j := 11) (by kernel_rfl) ?_ ?_
              · skip
                refine oa_v (i := 3) (listed' := #[true, true, true, true, true, true, true, true, true, true, true, false, true, true, true, false, false, false]) rfl rfl rfl (o_load p43 rfl (by repeat (first | exact has_here | exact has_pt | apply has_left)) rfl) ?_
                refine ta_one (i := 11) (by kernel_rfl) ?_
                refine oa_v (i := 11) (listed' := #[true, true, true, true, true, true, true, true, true, true, true, true, true, true, true, false, false, false]) rfl rfl rfl (o_loadSl (k := 1) (i := wi q P.seen.length) (v := hvs[wi q P.seen.length]) (xs := hvs) (Y := Sl 1 (.slice (some ⟨bh, oh, none⟩) P.seen.length ch) P.seen.length hvs) p42 rfl (by repeat (first | exact foc_here | apply foc_left)) (List.getElem?_eq_getElem hwv)) ?_
                refine ta_one (i := 15) (by kernel_rfl) ?_
                refine oa_x (i := 15) (listed' := #[true, true, true, true, true, true, true, true, true, true, true, true, true, true, true, true, false, false]) rfl rfl rfl (o_append1 Try.underlying42 Try.underlying42 sz53 by53 z53 rfl (by decide) (by decide) rfl rfl rfl rfl rfl (by omega)) ?_
                rintro u49 _ rfl
                refine ta_have (fun _ _ h => sl_have h) fun ⟨_, _, hu, _, _, _⟩ => ?_
                have hu1 : oneC u49 = true := by rw [hu]; rfl
                refine ta_pure (i := 16) (listed' := #[true, true, true, true, true, true, true, true, true, true, true, true, true, true, true, true, true, false]) rfl (by kernel_rfl) (by kernel_rfl) (by kernel_rfl) rfl rfl (o_indexAddrN1 (j := wi q P.seen.length) Try.underlying43 sz42 rfl rfl (by omega)) ?_
                refine ta_one (i := 17) (by kernel_rfl) ?_
                refine oa_u (i := 17) (listed' := #[true, true, true, true, true, true, true, true, true, true, true, true, true, true, true, true, true, true]) rfl rfl rfl (o_storeSl (i := wi q P.seen.length) sz42 rfl rfl hu1 hwlt (by repeat (first | exact foc_here | apply foc_left)) ) ?_
                refine ta_done (by kernel_rfl) ?_
                exact ⟨u49, rfl, rfl, rfl, rfl, by rw [hW3]; ac_rfl⟩
              · skip
                refine oa_v (i := 11) (listed' := #[true, true, true, false, true, true, true, true, true, true, true, true, true, true, true, false, false, false]) rfl rfl rfl (o_loadSl (k := 1) (i := wi q P.seen.length) (v := hvs[wi q P.seen.length]) (xs := hvs) (Y := Sl 1 (.slice (some ⟨bh, oh, none⟩) P.seen.length ch) P.seen.length hvs) p42 rfl (by repeat (first | exact foc_here | apply foc_left)) (List.getElem?_eq_getElem hwv)) ?_
                refine ta_two (i := 3) (j := 15) (by kernel_rfl) ?_ ?_
                · skip
                  refine oa_v (i := 3) (listed' := #[true, true, true, true, true, true, true, true, true, true, true, true, true, true, true, false, false, false]) rfl rfl rfl (o_load p43 rfl (by repeat (first | exact has_here | exact has_pt | apply has_left)) rfl) ?_
                  refine ta_one (i := 15) (by kernel_rfl) ?_
                  refine oa_x (i := 15) (listed' := #[true, true, true, true, true, true, true, true, true, true, true, true, true, true, true, true, false, false]) rfl rfl rfl (o_append1 Try.underlying42 Try.underlying42 sz53 by53 z53 rfl (by decide) (by decide) rfl rfl rfl rfl rfl (by omega)) ?_
                  rintro u49 _ rfl
                  refine ta_have (fun _ _ h => sl_have h) fun ⟨_, _, hu, _, _, _⟩ => ?_
                  have hu1 : oneC u49 = true := by rw [hu]; rfl
                  refine ta_pure (i := 16) (listed' := #[true, true, true, true, true, true, true, true, true, true, true, true, true, true, true, true, true, false]) rfl (by kernel_rfl) (by kernel_rfl) (by kernel_rfl) rfl rfl (o_indexAddrN1 (j := wi q P.seen.length) Try.underlying43 sz42 rfl rfl (by omega)) ?_
                  refine ta_one (i := 17) (by kernel_rfl) ?_
                  refine oa_u (i := 17) (listed' := #[true, true, true, true, true, true, true, true, true, true, true, true, true, true, true, true, true, true]) rfl rfl rfl (o_storeSl (i := wi q P.seen.length) sz42 rfl rfl hu1 hwlt (by repeat (first | exact foc_here | apply foc_left)) ) ?_
                  refine ta_done (by kernel_rfl) ?_
                  exact ⟨u49, rfl, rfl, rfl, rfl, by rw [hW3]; ac_rfl⟩
                · skip
                  refine oa_x (i := 15) (listed' := #[true, true, true, false, true, true, true, true, true, true, true, true, true, true, true, true, false, false]) rfl rfl rfl (o_append1 Try.underlying42 Try.underlying42 sz53 by53 z53 rfl (by decide) (by decide) rfl rfl rfl rfl rfl (by omega)) ?_
                  rintro u49 _ rfl
                  refine ta_have (fun _ _ h => sl_have h) fun ⟨_, _, hu, _, _, _⟩ => ?_
                  have hu1 : oneC u49 = true := by rw [hu]; rfl
                  refine ta_one (i := 3) (by kernel_rfl) ?_
                  refine oa_v (i := 3) (listed' := #[true, true, true, true, true, true, true, true, true, true, true, true, true, true, true, true, false, false]) rfl rfl rfl (o_load p43 rfl (by repeat (first | exact has_here | exact has_pt | apply has_left)) rfl) ?_
                  refine ta_pure (i := 16) (listed' := #[true, true, true, true, true, true, true, true, true, true, true, true, true, true, true, true, true, false]) rfl (by kernel_rfl) (by kernel_rfl) (by kernel_rfl) rfl rfl (o_indexAddrN1 (j := wi q P.seen.length) Try.underlying43 sz42 rfl rfl (by omega)) ?_
                  refine ta_one (i := 17) (by kernel_rfl) ?_
                  refine oa_u (i := 17) (listed' := #[true, true, true, true, true, true, true, true, true, true, true, true, true, true, true, true, true, true]) rfl rfl rfl (o_storeSl (i := wi q P.seen.length) sz42 rfl rfl hu1 hwlt (by repeat (first | exact foc_here | apply foc_left)) ) ?_
                  refine ta_done (by kernel_rfl) ?_
                  exact ⟨u49, rfl, rfl, rfl, rfl, by rw [hW3]; ac_rfl⟩
        · skip
          refine oa_v (i := 13) (listed' := #[true, true, true, false, true, true, true, true, false, true, false, false, true, true, false, false, false, false]) rfl rfl rfl (o_load p53 rfl (by repeat (first | exact has_here | exact has_pt | apply has_left)) rfl) ?_
          refine ta_three (i := 3) (j := 8) (k := 14) (by kernel_rfl) ?_ ?_ ?_
          · skip
            refine oa_v (i := 3) (listed' := #[true, true, true, true, true, true, true, true, false, true, false, false, true, true, false, false, false, false]) rfl rfl rfl (o_load p43 rfl (by repeat (first | exact has_here | exact has_pt | apply has_left)) rfl) ?_
            refine ta_two (i := 8) (j := 14) (by kernel_rfl) ?_ ?_
            · skip
              refine oa_v (i := 8) (listed' := #[true, true, true, true, true, true, true, true, true, true, false, false, true, true, false, false, false, false]) rfl rfl rfl (o_load p43 rfl (by repeat (first | exact has_here | exact has_pt | apply has_left)) rfl) ?_
              refine ta_pure (i := 10) (listed' := #[true, true, true, true, true, true, true, true, true, true, true, false, true, true, false, false, false, false]) rfl (by kernel_rfl) (by kernel_rfl) (by kernel_rfl) rfl rfl (o_indexAddrN1 (j := wi q P.seen.length) Try.underlying43 sz42 rfl rfl (by omega)) ?_
              refine ta_two (i := 11) (j := 14) (by kernel_rfl) ?_ ?_
              · skip
                refine oa_v (i := 11) (listed' := #[true, true, true, true, true, true, true, true, true, true, true, true, true, true, false, false, false, false]) rfl rfl rfl (o_loadSl (k := 1) (i := wi q P.seen.length) (v := hvs[wi q P.seen.length]) (xs := hvs) (Y := Sl 1 (.slice (some ⟨bh, oh, none⟩) P.seen.length ch) P.seen.length hvs) p42 rfl (by repeat (first | exact foc_here | apply foc_left)) (List.getElem?_eq_getElem hwv)) ?_
                refine ta_one (i := 14) (by kernel_rfl) ?_
                refine oa_x (i := 14) (listed' := #[true, true, true, true, true, true, true, true, true, true, true, true, true, true, true, false, false, false]) rfl rfl rfl (o_buildSlice1 (v := .int .u64 (v : Nat)) Try.underlying42 sz53 z53 rfl rfl) ?_
                rintro _ _ ⟨b48, rfl, rfl⟩
                refine ta_one (i := 15) (by kernel_rfl) ?_
                refine oa_x (i := 15) (listed' := #[true, true, true, true, true, true, true, true, true, true, true, true, true, true, true, true, false, false]) rfl rfl rfl (o_append1 Try.underlying42 Try.underlying42 sz53 by53 z53 rfl (by decide) (by decide) rfl rfl rfl rfl rfl (by omega)) ?_
                rintro u49 _ rfl
                refine ta_have (fun _ _ h => sl_have h) fun ⟨_, _, hu, _, _, _⟩ => ?_
                have hu1 : oneC u49 = true := by rw [hu]; rfl
                refine ta_pure (i := 16) (listed' := #[true, true, true, true, true, true, true, true, true, true, true, true, true, true, true, true, true, false]) rfl (by kernel_rfl) (by kernel_rfl) (by kernel_rfl) rfl rfl (o_indexAddrN1 (j := wi q P.seen.length) Try.underlying43 sz42 rfl rfl (by omega)) ?_
                refine ta_one (i := 17) (by kernel_rfl) ?_
                refine oa_u (i := 17) (listed' := #[true, true, true, true, true, true, true, true, true, true, true, true, true, true, true, true, true, true]) rfl rfl rfl (o_storeSl (i := wi q P.seen.length) sz42 rfl rfl hu1 hwlt (by repeat (first | exact foc_here | apply foc_left)) ) ?_
                refine ta_done (by kernel_rfl) ?_
                exact ⟨u49, rfl, rfl, rfl, rfl, by rw [hW3]; ac_rfl⟩
              · skip
                refine oa_x (i := 14) (listed' := #[true, true, true, true, true, true, true, true, true, true, true, false, true, true, true, false, false, false]) rfl rfl rfl (o_buildSlice1 (v := .int .u64 (v : Nat)) Try.underlying42 sz53 z53 rfl rfl) ?_
                rintro _ _ ⟨b48, rfl, rfl⟩
                refine ta_one (i := 11) (by kernel_rfl) ?_
                refine oa_v (i := 11) (listed' := #[true, true, true, true, true, true, true, true, true, true, true, true, true, true, true, false, false, false]) rfl rfl rfl (o_loadSl (k := 1) (i := wi q P.seen.length) (v := hvs[wi q P.seen.length]) (xs := hvs) (Y := Sl 1 (.slice (some ⟨bh, oh, none⟩) P.seen.length ch) P.seen.length hvs) p42 rfl (by repeat (first | exact foc_here | apply foc_left)) (List.getElem?_eq_getElem hwv)) ?_
                refine ta_one (i := 15) (by kernel_rfl) ?_
                refine oa_x (i := 15) (listed' := #[true, true, true, true, true, true, true, true, true, true, true, true, true, true, true, true, false, false]) rfl rfl rfl (o_append1 Try.underlying42 Try.underlying42 sz53 by53 z53 rfl (by decide) (by decide) rfl rfl rfl rfl rfl (by omega)) ?_
                rintro u49 _ rfl
                refine ta_have (fun _ _ h => sl_have h) fun ⟨_, _, hu, _, _, _⟩ => ?_
                have hu1 : oneC u49 = true := by rw [hu]; rfl
                refine ta_pure (i := 16) (listed' := #[true, true, true, true, true, true, true, true, true, true, true, true, true, true, true, true, true, false]) rfl (by kernel_rfl) (by kernel_rfl) (by kernel_rfl) rfl rfl (o_indexAddrN1 (j := wi q P.seen.length) Try.underlying43 sz42 rfl rfl (by omega)) ?_
                refine ta_one (i := 17) (by kernel_rfl) ?_
                refine oa_u (i := 17) (listed' := #[true, true, true, true, true, true, true, true, true, true, true, true, true, true, true, true, true, true]) rfl rfl rfl (o_storeSl (i := wi q P.seen.length) sz42 rfl rfl hu1 hwlt (by repeat (first | exact foc_here | apply foc_left)) ) ?_
                refine ta_done (by kernel_rfl) ?_
                exact ⟨u49, rfl, rfl, rfl, rfl, by rw [hW3]; ac_rfl⟩
            · skip
              refine oa_x (i := 14) (listed' := #[true, true, true, true, true, true, true, true, false, true, false, false, true, true, true, false, false, false]) rfl rfl rfl (o_buildSlice1 (v := .int .u64 (v : Nat)) Try.underlying42 sz53 z53 rfl rfl) ?_
              rintro _ _ ⟨b48, rfl, rfl⟩
              refine ta_one (i := 8) (by kernel_rfl) ?_
              refine oa_v (i := 8) (listed' := #[true, true, true, true, true, true, true, true, true, true, false, false, true, true, true, false, false, false]) rfl rfl rfl (o_load p43 rfl (by repeat (first | exact has_here | exact has_pt | apply has_left)) rfl) ?_
              refine ta_pure (i := 10) (listed' := #[true, true, true, true, true, true, true, true, true, true, true, false, true, true, true, false, false, false]) rfl (by kernel_rfl) (by kernel_rfl) (by kernel_rfl) rfl rfl (o_indexAddrN1 (j := wi q P.seen.length) Try.underlying43 sz42 rfl rfl (by omega)) ?_
              refine ta_one (i := 11) (by kernel_rfl) ?_
              refine oa_v (i := 11) (listed' := #[true, true, true, true, true, true, true, true, true, true, true, true, true, true, true, false, false, false]) rfl rfl rfl (o_loadSl (k := 1) (i := wi q P.seen.length) (v := hvs[wi q P.seen.length]) (xs := hvs) (Y := Sl 1 (.slice (some ⟨bh, oh, none⟩) P.seen.length ch) P.seen.length hvs) p42 rfl (by repeat (first | exact foc_here | apply foc_left)) (List.getElem?_eq_getElem hwv)) ?_
              refine ta_one (i := 15) (by kernel_rfl) ?_
              refine oa_x (i := 15) (listed' := #[true, true, true, true, true, true, true, true, true, true, true, true, true, true, true, true, false, false]) rfl rfl rfl (o_append1 Try.underlying42 Try.underlying42 sz53 by53 z53 rfl (by decide) (by decide) rfl rfl rfl rfl rfl (by omega)) ?_
              rintro u49 _ rfl
              refine ta_have (fun _ _ h => sl_have h) fun ⟨_, _, hu, _, _, _⟩ => ?_
              have hu1 : oneC u49 = true := by rw [hu]; rfl
              refine ta_pure (i := 16) (listed' := #[true, true, true, true, true, true, true, true, true, true, true, true, true, true, true, true, true, false]) rfl (by kernel_rfl) (by kernel_rfl) (by kernel_rfl) rfl rfl (o_indexAddrN1 (j := wi q P.seen.length) Try.underlying43 sz42 rfl rfl (by omega)) ?_
              refine ta_one (i := 17) (by kernel_rfl) ?_
              refine oa_u (i := 17) (listed' := #[true, true, true, true, true, true, true, true, true, true, true, true, true, true, true, true, true, true]) rfl rfl rfl (o_storeSl (i := wi q P.seen.length) sz42 rfl rfl hu1 hwlt (by repeat (first | exact foc_here | apply foc_left)) ) ?_
              refine ta_done (by kernel_rfl) ?_
              exact ⟨u49, rfl, rfl, rfl, rfl, by rw [hW3]; ac_rfl⟩
          · skip
            refine oa_v (i := 8) (listed' := #[true, true, true, false, true, true, true, true, true, true, false, false, true, true, false, false, false, false]) rfl rfl rfl (o_load p43 rfl (by repeat (first | exact has_here | exact has_pt | apply has_left)) rfl) ?_
            refine ta_pure (i := 10) (listed' := #[true, true, true, false, true, true, true, true, true, true, true, false, true, true, false, false, false, false]) rfl (by kernel_rfl) (by kernel_rfl) (by kernel_rfl) rfl rfl (o_indexAddrN1 (j := wi q P.seen.length) Try.underlying43 sz42 rfl rfl (by omega)) ?_
            refine ta_three (i := 3) (j := 11) (k := 14) (by kernel_rfl) ?_ ?_ ?_
            · skip
              refine oa_v (i := 3) (listed' := #[true, true, true, true, true, true, true, true, true, true, true, false, true, true, false, false, false, false]) rfl rfl rfl (o_load p43 rfl (by repeat (first | exact has_here | exact has_pt | apply has_left)) rfl) ?_
              refine ta_two (i := 11) (j := 14) (by kernel_rfl) ?_ ?_
              · skip
                refine oa_v (i := 11) (listed' := #[true, true, true, true, true, true, true, true, true, true, true, true, true, true, false, false, false, false]) rfl rfl rfl (o_loadSl (k := 1) (i := wi q P.seen.length) (v := hvs[wi q P.seen.length]) (xs := hvs) (Y := Sl 1 (.slice (some ⟨bh, oh, none⟩) P.seen.length ch) P.seen.length hvs) p42 rfl (by repeat (first | exact foc_here | apply foc_left)) (List.getElem?_eq_getElem hwv)) ?_
                refine ta_one (i := 14) (by kernel_rfl) ?_
                refine oa_x (i := 14) (listed' := #[true, true, true, true, true, true, true, true, true, true, true, true, true, true, true, false, false, false]) rfl rfl rfl (o_buildSlice1 (v := .int .u64 (v : Nat)) Try.underlying42 sz53 z53 rfl rfl) ?_
                rintro _ _ ⟨b48, rfl, rfl⟩
                refine ta_one (i := 15) (by kernel_rfl) ?_
                refine oa_x (i := 15) (listed' := #[true, true, true, true, true, true, true, true, true, true, true, true, true, true, true, true, false, false]) rfl rfl rfl (o_append1 Try.underlying42 Try.underlying42 sz53 by53 z53 rfl (by decide) (by decide) rfl rfl rfl rfl rfl (by omega)) ?_
                rintro u49 _ rfl
                refine ta_have (fun _ _ h => sl_have h) fun ⟨_, _, hu, _, _, _⟩ => ?_
                have hu1 : oneC u49 = true := by rw [hu]; rfl
                refine ta_pure (i := 16) (listed' := #[true, true, true, true, true, true, true, true, true, true, true, true, true, true, true, true, true, false]) rfl (by kernel_rfl) (by kernel_rfl) (by kernel_rfl) rfl rfl (o_indexAddrN1 (j := wi q P.seen.length) Try.underlying43 sz42 rfl rfl (by omega)) ?_
                refine ta_one (i := 17) (by kernel_rfl) ?_
                refine oa_u (i := 17) (listed' := #[true, true, true, true, true, true, true, true, true, true, true, true, true, true, true, true, true, true]) rfl rfl rfl (o_storeSl (i := wi q P.seen.length) sz42 rfl rfl hu1 hwlt (by repeat (first | exact foc_here | apply foc_left)) ) ?_
                refine ta_done (by kernel_rfl) ?_
                exact ⟨u49, rfl, rfl, rfl, rfl, by rw [hW3]; ac_rfl⟩
              · skip
                refine oa_x (i := 14) (listed' := #[true, true, true, true, true, true, true, true, true, true, true, false, true, true, true, false, false, false]) rfl rfl rfl (o_buildSlice1 (v := .int .u64 (v : Nat)) Try.underlying42 sz53 z53 rfl rfl) ?_
                rintro _ _ ⟨b48, rfl, rfl⟩
                refine ta_one (i := 11) (by kernel_rfl) ?_
                refine oa_v (i := 11) (listed' := #[true, true, true, true, true, true, true, true, true, true, true, true, true, true, true, false, false, false]) rfl rfl rfl (o_loadSl (k := 1) (i := wi q P.seen.length) (v := hvs[wi q P.seen.length]) (xs := hvs) (Y := Sl 1 (.slice (some ⟨bh, oh, none⟩) P.seen.length ch) P.seen.length hvs) p42 rfl (by repeat (first | exact foc_here | apply foc_left)) (List.getElem?_eq_getElem hwv)) ?_
                refine ta_one (i := 15) (by kernel_rfl) ?_
                refine oa_x (i := 15) (listed' := #[true, true, true, true, true, true, true, true, true, true, true, true, true, true, true, true, false, false]) rfl rfl rfl (o_append1 Try.underlying42 Try.underlying42 sz53 by53 z53 rfl (by decide) (by decide) rfl rfl rfl rfl rfl (by omega)) ?_
                rintro u49 _ rfl
                refine ta_have (fun _ _ h => sl_have h) fun ⟨_, _, hu, _, _, _⟩ => ?_
                have hu1 : oneC u49 = true := by rw [hu]; rfl
                refine ta_pure (i := 16) (listed' := #[true, true, true, true, true, true, true, true, true, true, true, true, true, true, true, true, true, false]) rfl (by kernel_rfl) (by kernel_rfl) (by kernel_rfl) rfl rfl (o_indexAddrN1 (j := wi q P.seen.length) Try.underlying43 sz42 rfl rfl (by omega)) ?_
                refine ta_one (i := 17) (by kernel_rfl) ?_
                refine oa_u (i := 17) (listed' := #[true, true, true, true, true, true, true, true, true, true, true, true, true, true, true, true, true, true]) rfl rfl rfl (o_storeSl (i := wi q P.seen.length) sz42 rfl rfl hu1 hwlt (by repeat (first | exact foc_here | apply foc_left)) ) ?_
                refine ta_done (by kernel_rfl) ?_
                exact ⟨u49, rfl, rfl, rfl, rfl, by rw [hW3]; ac_rfl⟩
            · skip
              refine oa_v (i := 11) (listed' := #[true, true, true, false, true, true, true, true, true, true, true, true, true, true, false, false, false, false]) rfl rfl rfl (o_loadSl (k := 1) (i := wi q P.seen.length) (v := hvs[wi q P.seen.length]) (xs := hvs) (Y := Sl 1 (.slice (some ⟨bh, oh, none⟩) P.seen.length ch) P.seen.length hvs) p42 rfl (by repeat (first | exact foc_here | apply foc_left)) (List.getElem?_eq_getElem hwv)) ?_
              refine ta_two (i := 3) (j := 14) (by kernel_rfl) ?_ ?_
              · skip
                refine oa_v (i := 3) (listed' := #[true, true, true, true, true, true, true, true, true, true, true, true, true, true, false, false, false, false]) rfl rfl rfl (o_load p43 rfl (by repeat (first | exact has_here | exact has_pt | apply has_left)) rfl) ?_
                refine ta_one (i := 14) (by kernel_rfl) ?_
                refine oa_x (i := 14) (listed' := #[true, true, true, true, true, true, true, true, true, true, true, true, true, true, true, false, false, false]) rfl rfl rfl (o_buildSlice1 (v := .int .u64 (v : Nat)) Try.underlying42 sz53 z53 rfl rfl) ?_
                rintro _ _ ⟨b48, rfl, rfl⟩
                refine ta_one (i := 15) (by kernel_rfl) ?_
                refine oa_x (i := 15) (listed' := #[true, true, true, true, true, true, true, true, true, true, true, true, true, true, true, true, false, false]) rfl rfl rfl (o_append1 Try.underlying42 Try.underlying42 sz53 by53 z53 rfl (by decide) (by decide) rfl rfl rfl rfl rfl (by omega)) ?_
                rintro u49 _ rfl
                refine ta_have (fun _ _ h => sl_have h) fun ⟨_, _, hu, _, _, _⟩ => ?_
                have hu1 : oneC u49 = true := by rw [hu]; rfl
                refine ta_pure (i := 16) (listed' := #[true, true, true, true, true, true, true, true, true, true, true, true, true, true, true, true, true, false]) rfl (by kernel_rfl) (by kernel_rfl) (by kernel_rfl) rfl rfl (o_indexAddrN1 (j := wi q P.seen.length) Try.underlying43 sz42 rfl rfl (by omega)) ?_
                refine ta_one (i := 17) (by kernel_rfl) ?_
                refine oa_u (i := 17) (listed' := #[true, true, true, true, true, true, true, true, true, true, true, true, true, true, true, true, true, true]) rfl rfl rfl (o_storeSl (i := wi q P.seen.length) sz42 rfl rfl hu1 hwlt (by repeat (first | exact foc_here | apply foc_left)) ) ?_
                refine ta_done (by kernel_rfl) ?_
                exact ⟨u49, rfl, rfl, rfl, rfl, by rw [hW3]; ac_rfl⟩
              · skip
                refine oa_x (i := 14) (listed' := #[true, true, true, false, true, true, true, true, true, true, true, true, true, true, true, false, false, false]) rfl rfl rfl (o_buildSlice1 (v := .int .u64 (v : Nat)) Try.underlying42 sz53 z53 rfl rfl) ?_
                rintro _ _ ⟨b48, rfl, rfl⟩
                refine ta_two (i := 3) (j := 15) (by kernel_rfl) ?_ ?_
                · skip
                  refine oa_v (i := 3) (listed' := #[true, true, true, true, true, true, true, true, true, true, true, true, true, true, true, false, false, false]) rfl rfl rfl (o_load p43 rfl (by repeat (first | exact has_here | exact has_pt | apply has_left)) rfl) ?_
                  refine ta_one (i := 15) (by kernel_rfl) ?_
                  refine oa_x (i := 15) (listed' := #[true, true, true, true, true, true, true, true, true, true, true, true, true, true, true, true, false, false]) rfl rfl rfl (o_append1 Try.underlying42 Try.underlying42 sz53 by53 z53 rfl (by decide) (by decide) rfl rfl rfl rfl rfl (by omega)) ?_
                  rintro u49 _ rfl
                  refine ta_have (fun _ _ h => sl_have h) fun ⟨_, _, hu, _, _, _⟩ => ?_
                  have hu1 : oneC u49 = true := by rw [hu]; rfl
                  refine ta_pure (i := 16) (listed' := #[true, true, true, true, true, true, true, true, true, true, true, true, true, true, true, true, true, false]) rfl (by kernel_rfl) (by kernel_rfl) (by kernel_rfl) rfl rfl (o_indexAddrN1 (j := wi q P.seen.length) Try.underlying43 sz42 rfl rfl (by omega)) ?_
                  refine ta_one (i := 17) (by kernel_rfl) ?_
                  refine oa_u (i := 17) (listed' := #[true, true, true, true, true, true, true, true, true, true, true, true, true, true, true, true, true, true]) rfl rfl rfl (o_storeSl (i := wi q P.seen.length) sz42 rfl rfl hu1 hwlt (by repeat (first | exact foc_here | apply foc_left)) ) ?_
                  refine ta_done (by kernel_rfl) ?_
                  exact ⟨u49, rfl, rfl, rfl, rfl, by rw [hW3]; ac_rfl⟩
                · skip
                  refine oa_x (i := 15) (listed' := #[true, true, true, false, true, true, true, true, true, true, true, true, true, true, true, true, false, false]) rfl rfl rfl (o_append1 Try.underlying42 Try.underlying42 sz53 by53 z53 rfl (by decide) (by decide) rfl rfl rfl rfl rfl (by omega)) ?_
                  rintro u49 _ rfl
                  refine ta_have (fun _ _ h => sl_have h) fun ⟨_, _, hu, _, _, _⟩ => ?_
                  have hu1 : oneC u49 = true := by rw [hu]; rfl
                  refine ta_one (i := 3) (by kernel_rfl) ?_
                  refine oa_v (i := 3) (listed' := #[true, true, true, true, true, true, true, true, true, true, true, true, true, true, true, true, false, false]) rfl rfl rfl (o_load p43 rfl (by repeat (first | exact has_here | exact has_pt | apply has_left)) rfl) ?_
                  refine ta_pure (i := 16) (listed' := #[true, true, true, true, true, true, true, true, true, true, true, true, true, true, true, true, true, false]) rfl (by kernel_rfl) (by kernel_rfl) (by kernel_rfl) rfl rfl (o_indexAddrN1 (j := wi q P.seen.length) Try.underlying43 sz42 rfl rfl (by omega)) ?_
                  refine ta_one (i := 17) (by kernel_rfl) ?_
                  refine oa_u (i := 17) (listed' := #[true, true, true, true, true, true, true, true, true, true, true, true, true, true, true, true, true, true]) rfl rfl rfl (o_storeSl (i := wi q P.seen.length) sz42 rfl rfl hu1 hwlt (by repeat (first | exact foc_here | apply foc_left)) ) ?_
                  refine ta_done (by kernel_rfl) ?_
                  exact ⟨u49, rfl, rfl, rfl, rfl, by rw [hW3]; ac_rfl⟩
            · skip
              refine oa_x (i := 14) (listed' := #[true, true, true, false, true, true, true, true, true, true, true, false, true, true, true, false, false, false]) rfl rfl rfl (o_buildSlice1 (v := .int .u64 (v : Nat)) Try.underlying42 sz53 z53 rfl rfl) ?_
              rintro _ _ ⟨b48, rfl, rfl⟩
              refine ta_two (i := 3) (j := 11) (by kernel_rfl) ?_ ?_
              · skip
                refine oa_v (i := 3) (listed' := #[true, true, true, true, true, true, true, true, true, true, true, false, true, true, true, false, false, false]) rfl rfl rfl (o_load p43 rfl (by repeat (first | exact has_here | exact has_pt | apply has_left)) rfl) ?_
                refine ta_one (i := 11) (by kernel_rfl) ?_
                refine oa_v (i := 11) (listed' := #[true, true, true, true, true, true, true, true, true, true, true, true, true, true, true, false, false, false]) rfl rfl rfl (o_loadSl (k := 1) (i := wi q P.seen.length) (v := hvs[wi q P.seen.length]) (xs := hvs) (Y := Sl 1 (.slice (some ⟨bh, oh, none⟩) P.seen.length ch) P.seen.length hvs) p42 rfl (by repeat (first | exact foc_here | apply foc_left)) (List.getElem?_eq_getElem hwv)) ?_
                refine ta_one (i := 15) (by kernel_rfl) ?_
                refine oa_x (i := 15) (listed' := #[true, true, true, true, true, true, true, true, true, true, true, true, true, true, true, true, false, false]) rfl rfl rfl (o_append1 Try.underlying42 Try.underlying42 sz53 by53 z53 rfl (by decide) (by decide) rfl rfl rfl rfl rfl (by omega)) ?_
                rintro u49 _ rfl
                refine ta_have (fun _ _ h => sl_have h) fun ⟨_, _, hu, _, _, _⟩ => ?_
                have hu1 : oneC u49 = true := by rw [hu]; rfl
                refine ta_pure (i := 16) (listed' := #[true, true, true, true, true, true, true, true, true, true, true, true, true, true, true, true, true, false]) rfl (by kernel_rfl) (by kernel_rfl) (by kernel_rfl) rfl rfl (o_indexAddrN1 (j := wi q P.seen.length) Try.underlying43 sz42 rfl rfl (by omega)) ?_
                refine ta_one (i := 17) (by kernel_rfl) ?_
                refine oa_u (i := 17) (listed' := #[true, true, true, true, true, true, true, true, true, true, true, true, true, true, true, true, true, true]) rfl rfl rfl (o_storeSl (i := wi q P.seen.length) sz42 rfl rfl hu1 hwlt (by repeat (first | exact foc_here | apply foc_left)) ) ?_
                refine ta_done (by kernel_rfl) ?_
                exact ⟨u49, rfl, rfl, rfl, rfl, by rw [hW3]; ac_rfl⟩
              · skip
                refine oa_v (i := 11) (listed' := #[true, true, true, false, true, true, true, true, true, true, true, true, true, true, true, false, false, false]) rfl rfl rfl (o_loadSl (k := 1) (i := wi q P.seen.length) (v := hvs[wi q P.seen.length]) (xs := hvs) (Y := Sl 1 (.slice (some ⟨bh, oh, none⟩) P.seen.length ch) P.seen.length hvs) p42 rfl (by repeat (first | exact foc_here | apply foc_left)) (List.getElem?_eq_getElem hwv)) ?_
                refine ta_two (i := 3) (j := 15) (by kernel_rfl) ?_ ?_
                · skip
                  refine oa_v (i := 3) (listed' := #[true, true, true, true, true, true, true, true, true, true, true, true, true, true, true, false, false, false]) rfl rfl rfl (o_load p43 rfl (by repeat (first | exact has_here | exact has_pt | apply has_left)) rfl) ?_
                  refine ta_one (i := 15) (by kernel_rfl) ?_
                  refine oa_x (i := 15) (listed' := #[true, true, true, true, true, true, true, true, true, true, true, true, true, true, true, true, false, false]) rfl rfl rfl (o_append1 Try.underlying42 Try.underlying42 sz53 by53 z53 rfl (by decide) (by decide) rfl rfl rfl rfl rfl (by omega)) ?_
                  rintro u49 _ rfl
                  refine ta_have (fun _ _ h => sl_have h) fun ⟨_, _, hu, _, _, _⟩ => ?_
                  have hu1 : oneC u49 = true := by rw [hu]; rfl
                  refine ta_pure (i := 16) (listed' := #[true, true, true, true, true, true, true, true, true, true, true, true, true, true, true, true, true, false]) rfl (by kernel_rfl) (by kernel_rfl) (by kernel_rfl) rfl rfl (o_indexAddrN1 (j := wi q P.seen.length) Try.underlying43 sz42 rfl rfl (by omega)) ?_
                  refine ta_one (i := 17) (by kernel_rfl) ?_
                  refine oa_u (i := 17) (listed' := #[true, true, true, true, true, true, true, true, true, true, true, true, true, true, true, true, true, true]) rfl rfl rfl (o_storeSl (i := wi q P.seen.length) sz42 rfl rfl hu1 hwlt (by repeat (first | exact foc_here | apply foc_left)) ) ?_
                  refine ta_done (by kernel_rfl) ?_
                  exact ⟨u49, rfl, rfl, rfl, rfl, by rw [hW3]; ac_rfl⟩
                · skip
                  refine oa_x (i := 15) (listed' := #[true, true, true, false, true, true, true, true, true, true, true, true, true, true, true, true, false, false]) rfl rfl rfl (o_append1 Try.underlying42 Try.underlying42 sz53 by53 z53 rfl (by decide) (by decide) rfl rfl rfl rfl rfl (by omega)) ?_
                  rintro u49 _ rfl
                  refine ta_have (fun _ _ h => sl_have h) fun ⟨_, _, hu, _, _, _⟩ => ?_
                  have hu1 : oneC u49 = true := by rw [hu]; rfl
                  refine ta_one (i := 3) (by kernel_rfl) ?_
                  refine oa_v (i := 3) (listed' := #[true, true, true, true, true, true, true, true, true, true, true, true, true, true, true, true, false, false]) rfl rfl rfl (o_load p43 rfl (by repeat (first | exact has_here | exact has_pt | apply has_left)) rfl) ?_
                  refine ta_pure (i := 16) (listed' := #[true, true, true, true, true, true, true, true, true, true, true, true, true, true, true, true, true, false]) rfl (by kernel_rfl) (by kernel_rfl) (by kernel_rfl) rfl rfl (o_indexAddrN1 (j := wi q P.seen.length) Try.underlying43 sz42 rfl rfl (by omega)) ?_
                  refine ta_one (i := 17) (by kernel_rfl) ?_
                  refine oa_u (i := 17) (listed' := #[true, true, true, true, true, true, true, true, true, true, true, true, true, true, true, true, true, true]) rfl rfl rfl (o_storeSl (i := wi q P.seen.length) sz42 rfl rfl hu1 hwlt (by repeat (first | exact foc_here | apply foc_left)) ) ?_
                  refine ta_done (by kernel_rfl) ?_
                  exact ⟨u49, rfl, rfl, rfl, rfl, by rw [hW3]; ac_rfl⟩
          · skip
            refine oa_x (i := 14) (listed' := #[true, true, true, false, true, true, true, true, false, true, false, false, true, true, true, false, false, false]) rfl rfl rfl (o_buildSlice1 (v := .int .u64 (v : Nat)) Try.underlying42 sz53 z53 rfl rfl) ?_
            rintro _ _ ⟨b48, rfl, rfl⟩
            refine ta_two (i := 3) (j := 8) (by kernel_rfl) ?_ ?_
            · skip
              refine oa_v (i := 3) (listed' := #[true, true, true, true, true, true, true, true, false, true, false, false, true, true, true, false, false, false]) rfl rfl rfl (o_load p43 rfl (by repeat (first | exact has_here | exact has_pt | apply has_left)) rfl) ?_
              refine ta_one (i := 8) (by kernel_rfl) ?_
              refine oa_v (i := 8) (listed' := #[true, true, true, true, true, true, true, true, true, true, false, false, true, true, true, false, false, false]) rfl rfl rfl (o_load p43 rfl (by repeat (first | exact has_here | exact has_pt | apply has_left)) rfl) ?_
              refine ta_pure (i := 10) (listed' := #[true, true, true, true, true, true, true, true, true, true, true, false, true, true, true, false, false, false]) rfl (by kernel_rfl) (by kernel_rfl) (by kernel_rfl) rfl rfl (o_indexAddrN1 (j := wi q P.seen.length) Try.underlying43 sz42 rfl rfl (by omega)) ?_
              refine ta_one (i := 11) (by kernel_rfl) ?_
              refine oa_v (i := 11) (listed' := #[true, true, true, true, true, true, true, true, true, true, true, true, true, true, true, false, false, false]) rfl rfl rfl (o_loadSl (k := 1) (i := wi q P.seen.length) (v := hvs[wi q P.seen.length]) (xs := hvs) (Y := Sl 1 (.slice (some ⟨bh, oh, none⟩) P.seen.length ch) P.seen.length hvs) p42 rfl (by repeat (first | exact foc_here | apply foc_left)) (List.getElem?_eq_getElem hwv)) ?_
              refine ta_one (i := 15) (by kernel_rfl) ?_
              refine oa_x (i := 15) (listed' := #[true, true, true, true, true, true, true, true, true, true, true, true, true, true, true, true, false, false]) rfl rfl rfl (o_append1 Try.underlying42 Try.underlying42 sz53 by53 z53 rfl (by decide) (by decide) rfl rfl rfl rfl rfl (by omega)) ?_
              rintro u49 _ rfl
              refine ta_have (fun _ _ h => sl_have h) fun ⟨_, _, hu, _, _, _⟩ => ?_
              have hu1 : oneC u49 = true := by rw [hu]; rfl
              refine ta_pure (i := 16) (listed' := #[true, true, true, true, true, true, true, true, true, true, true, true, true, true, true, true, true, false]) rfl (by kernel_rfl) (by kernel_rfl) (by kernel_rfl) rfl rfl (o_indexAddrN1 (j := wi q P.seen.length) Try.underlying43 sz42 rfl rfl (by omega)) ?_
              refine ta_one (i := 17) (by kernel_rfl) ?_
              refine oa_u (i := 17) (listed' := #[true, true, true, true, true, true, true, true, true, true, true, true, true, true, true, true, true, true]) rfl rfl rfl (o_storeSl (i := wi q P.seen.length) sz42 rfl rfl hu1 hwlt (by repeat (first | exact foc_here | apply foc_left)) ) ?_
              refine ta_done (by kernel_rfl) ?_
              exact ⟨u49, rfl, rfl, rfl, rfl, by rw [hW3]; ac_rfl⟩
            · skip
              refine oa_v (i := 8) (listed' := #[true, true, true, false, true, true, true, true, true, true, false, false, true, true, true, false, false, false]) rfl rfl rfl (o_load p43 rfl (by repeat (first | exact has_here | exact has_pt | apply has_left)) rfl) ?_
              refine ta_pure (i := 10) (listed' := #[true, true, true, false, true, true, true, true, true, true, true, false, true, true, true, false, false, false]) rfl (by kernel_rfl) (by kernel_rfl) (by kernel_rfl) rfl rfl (o_indexAddrN1 (j := wi q P.seen.length) Try.underlying43 sz42 rfl rfl (by omega)) ?_
              refine ta_two (i := 3) (j := 11) (by kernel_rfl) ?_ ?_
              · skip
                refine oa_v (i := 3) (listed' := #[true, true, true, true, true, true, true, true, true, true, true, false, true, true, true, false, false, false]) rfl rfl rfl (o_load p43 rfl (by repeat (first | exact has_here | exact has_pt | apply has_left)) rfl) ?_
                refine ta_one (i := 11) (by kernel_rfl) ?_
                refine oa_v (i := 11) (listed' := #[true, true, true, true, true, true, true, true, true, true, true, true, true, true, true, false, false, false]) rfl rfl rfl (o_loadSl (k := 1) (i := wi q P.seen.length) (v := hvs[wi q P.seen.length]) (xs := hvs) (Y := Sl 1 (.slice (some ⟨bh, oh, none⟩) P.seen.length ch) P.seen.length hvs) p42 rfl (by repeat (first | exact foc_here | apply foc_left)) (List.getElem?_eq_getElem hwv)) ?_
                refine ta_one (i := 15) (by kernel_rfl) ?_
                refine oa_x (i := 15) (listed' := #[true, true, true, true, true, true, true, true, true, true, true, true, true, true, true, true, false, false]) rfl rfl rfl (o_append1 Try.underlying42 Try.underlying42 sz53 by53 z53 rfl (by decide) (by decide) rfl rfl rfl rfl rfl (by omega)) ?_
                rintro u49 _ rfl
                refine ta_have (fun _ _ h => sl_have h) fun ⟨_, _, hu, _, _, _⟩ => ?_
                have hu1 : oneC u49 = true := by rw [hu]; rfl
                refine ta_pure (i := 16) (listed' := #[true, true, true, true, true, true, true, true, true, true, true, true, true, true, true, true, true, false]) rfl (by kernel_rfl) (by kernel_rfl) (by kernel_rfl) rfl rfl (o_indexAddrN1 (j := wi q P.seen.length) Try.underlying43 sz42 rfl rfl (by omega)) ?_
                refine ta_one (i := 17) (by kernel_rfl) ?_
                refine oa_u (i := 17) (listed' := #[true, true, true, true, true, true, true, true, true, true, true, true, true, true, true, true, true, true]) rfl rfl rfl (o_storeSl (i := wi q P.seen.length) sz42 rfl rfl hu1 hwlt (by repeat (first | exact foc_here | apply foc_left)) ) ?_
                refine ta_done (by kernel_rfl) ?_
                exact ⟨u49, rfl, rfl, rfl, rfl, by rw [hW3]; ac_rfl⟩
              · skip
                refine oa_v (i := 11) (listed' := #[true, true, true, false, true, true, true, true, true, true, true, true, true, true, true, false, false, false]) rfl rfl rfl (o_loadSl (k := 1) (i := wi q P.seen.length) (v := hvs[wi q P.seen.length]) (xs := hvs) (Y := Sl 1 (.slice (some ⟨bh, oh, none⟩) P.seen.length ch) P.seen.length hvs) p42 rfl (by repeat (first | exact foc_here | apply foc_left)) (List.getElem?_eq_getElem hwv)) ?_
                refine ta_two (i := 3) (j := 15) (by kernel_rfl) ?_ ?_
                · skip
                  refine oa_v (i := 3) (listed' := #[true, true, true, true, true, true, true, true, true, true, true, true, true, true, true, false, false, false]) rfl rfl rfl (o_load p43 rfl (by repeat (first | exact has_here | exact has_pt | apply has_left)) rfl) ?_
                  refine ta_one (i := 15) (by kernel_rfl) ?_
                  refine oa_x (i := 15) (listed' := #[true, true, true, true, true, true, true, true, true, true, true, true, true, true, true, true, false, false]) rfl rfl rfl (o_append1 Try.underlying42 Try.underlying42 sz53 by53 z53 rfl (by decide) (by decide) rfl rfl rfl rfl rfl (by omega)) ?_
                  rintro u49 _ rfl
                  refine ta_have (fun _ _ h => sl_have h) fun ⟨_, _, hu, _, _, _⟩ => ?_
                  have hu1 : oneC u49 = true := by rw [hu]; rfl
                  refine ta_pure (i := 16) (listed' := #[true, true, true, true, true, true, true, true, true, true, true, true, true, true, true, true, true, false]) rfl (by kernel_rfl) (by kernel_rfl) (by kernel_rfl) rfl rfl (o_indexAddrN1 (j := wi q P.seen.length) Try.underlying43 sz42 rfl rfl (by omega)) ?_
                  refine ta_one (i := 17) (by kernel_rfl) ?_
                  refine oa_u (i := 17) (listed' := #[true, true, true, true, true, true, true, true, true, true, true, true, true, true, true, true, true, true]) rfl rfl rfl (o_storeSl (i := wi q P.seen.length) sz42 rfl rfl hu1 hwlt (by repeat (first | exact foc_here | apply foc_left)) ) ?_
                  refine ta_done (by kernel_rfl) ?_
                  exact ⟨u49, rfl, rfl, rfl, rfl, by rw [hW3]; ac_rfl⟩
                · skip
                  refine oa_x (i := 15) (listed' := #[true, true, true, false, true, true, true, true, true, true, true, true, true, true, true, true, false, false]) rfl rfl rfl (o_append1 Try.underlying42 Try.underlying42 sz53 by53 z53 rfl (by decide) (by decide) rfl rfl rfl rfl rfl (by omega)) ?_
                  rintro u49 _ rfl
                  refine ta_have (fun _ _ h => sl_have h) fun ⟨_, _, hu, _, _, _⟩ => ?_
                  have hu1 : oneC u49 = true := by rw [hu]; rfl
                  refine ta_one (i := 3) (by kernel_rfl) ?_
                  refine oa_v (i := 3) (listed' := #[true, true, true, true, true, true, true, true, true, true, true, true, true, true, true, true, false, false]) rfl rfl rfl (o_load p43 rfl (by repeat (first | exact has_here | exact has_pt | apply has_left)) rfl) ?_
                  refine ta_pure (i := 16) (listed' := #[true, true, true, true, true, true, true, true, true, true, true, true, true, true, true, true, true, false]) rfl (by kernel_rfl) (by kernel_rfl) (by kernel_rfl) rfl rfl (o_indexAddrN1 (j := wi q P.seen.length) Try.underlying43 sz42 rfl rfl (by omega)) ?_
                  refine ta_one (i := 17) (by kernel_rfl) ?_
                  refine oa_u (i := 17) (listed' := #[true, true, true, true, true, true, true, true, true, true, true, true, true, true, true, true, true, true]) rfl rfl rfl (o_storeSl (i := wi q P.seen.length) sz42 rfl rfl hu1 hwlt (by repeat (first | exact foc_here | apply foc_left)) ) ?_
                  refine ta_done (by kernel_rfl) ?_
                  exact ⟨u49, rfl, rfl, rfl, rfl, by rw [hW3]; ac_rfl⟩
      · intro ρ A hI
        obtain ⟨u, h0, h3, h6, h7, rfl⟩ := hI
        refine q_then_n ?_
        refine tc_env (d := 0) h0 ?_
        refine tc_env (d := 3) h3 ?_
        refine tc_env (d := 6) h6 ?_
        refine tc_env (d := 7) h7 ?_
        refine tc_seq ?_
        refine tc_reg ?_
        refine tl_v rfl (o_move rfl) ?_
        refine tl_v rfl (o_nilCheck rfl) ?_
        refine tl_v rfl (o_fieldAddr (o := 4) Try.underlying46 rfl rfl sz44 rfl) ?_
        refine tl_v rfl (o_load p44 rfl (by repeat (first | exact has_here | exact has_pt | apply has_left)) rfl) ?_
        refine tl_v rfl (o_move rfl) ?_
        refine tl_v rfl (o_indexAddrN1 (j := wi q P.seen.length) Try.underlying44 sz4 rfl rfl (by omega)) ?_
        refine tl_u rfl (o_storeSl (i := wi q P.seen.length) sz4 rfl rfl rfl hwlt (by repeat (first | exact foc_here | apply foc_left)) ) ?_
        refine tl_nil ?_
        refine q_then_n ?_
        refine tc_seq ?_
        refine tc_seq ?_
        refine tc_reg ?_
        refine tl_v rfl (o_move rfl) ?_
        refine tl_v rfl (o_nilCheck rfl) ?_
        refine tl_v rfl (o_fieldAddr (o := 5) Try.underlying46 rfl rfl sz37 rfl) ?_
        refine tl_v rfl (o_load p37 rfl (by repeat (first | exact has_here | exact has_pt | apply has_left)) rfl) ?_
        refine tl_v rfl (o_move rfl) ?_
        refine tl_v rfl (o_indexAddrN1 (j := wi q P.seen.length / 8) Try.underlying37 sz3 rfl rfl (by omega)) ?_
        refine tl_v rfl (o_loadSl (k := 1) (i := wi q P.seen.length / 8) (xs := ints P.marks) (Y := Sl 1 (.slice (some ⟨bm, om, none⟩) P.marks.length cm) P.marks.length (ints P.marks)) p3 rfl (by repeat (first | exact foc_here | apply foc_left)) (ints_at hw8)) ?_
        refine tl_v rfl (o_eqi rfl rfl) ?_
        refine tl_nil ?_
        refine q_then_n ?_
        refine tc_cond rfl (fun h => ?_) (fun h => ?_)
        · try simp only [decide_eq_true_eq, decide_eq_false_iff_not, Bool.not_eq_true', Bool.not_eq_false', Option.isNone_some, Option.isNone_none, Bool.not_true, Bool.not_false] at h
          refine tc_reg ?_
          refine tl_v rfl (o_move rfl) ?_
          refine tl_v rfl (o_nilCheck rfl) ?_
          refine tl_v rfl (o_fieldAddr (o := 5) Try.underlying46 rfl rfl sz37 rfl) ?_
          refine tl_v rfl (o_load p37 rfl (by repeat (first | exact has_here | exact has_pt | apply has_left)) rfl) ?_
          refine tl_v rfl (o_move rfl) ?_
          refine tl_v rfl (o_indexAddrN1 (j := wi q P.seen.length / 8) Try.underlying37 sz3 rfl rfl (by omega)) ?_
          refine tl_u rfl (o_storeSl (i := wi q P.seen.length / 8) sz3 rfl rfl rfl hw8 (by repeat (first | exact foc_here | apply foc_left)) ) ?_
          refine tl_nil ?_
          refine q_then_n ?_
          refine tc_seq ?_
          refine tc_rega mo ?_
          show TA _ _ _ _ 11 #[false, false, false, false, false, false, false, false, false, false, false] _ _
          refine ta_pure (i := 0) (listed' := #[true, false, false, false, false, false, false, false, false, false, false]) rfl (by kernel_rfl) (by kernel_rfl) (by kernel_rfl) rfl rfl (o_move rfl) ?_
          refine ta_eq (A' := F * Words (hvs.set (wi q P.seen.length) u) (P.held.set (wi q P.seen.length) (P.held[wi q P.seen.length] ++ [v])) * pt p (cl (pcs d (.slice (some ⟨bs, os, none⟩) P.seen.length cs) (.slice (some ⟨bh, oh, none⟩) P.seen.length ch) (.slice (some ⟨bl, ol, none⟩) P.seen.length cL) (.slice (some ⟨bu, ou, none⟩) P.seen.length cu) (.slice (some ⟨bm, om, none⟩) P.marks.length cm)) 46) * Sl 1 (.slice (some ⟨bs, os, none⟩) P.seen.length cs) P.seen.length ((wds P.seen).set (wi q P.seen.length) (.int .u64 (v : Nat))) * Sl 1 (.slice (some ⟨bh, oh, none⟩) P.seen.length ch) P.seen.length (hvs.set (wi q P.seen.length) u) * Sl 1 (.slice (some ⟨bl, ol, none⟩) P.seen.length cL) P.seen.length (wds P.last) * Sl 1 (.slice (some ⟨bu, ou, none⟩) P.seen.length cu) P.seen.length ((bos P.sure).set (wi q P.seen.length) (.bool false)) * Sl 1 (.slice (some ⟨bm, om, none⟩) P.marks.length cm) P.marks.length ((ints P.marks).set (wi q P.seen.length / 8) (.int .i64 2)) * pt b3 (cl [.int .i64 k, .int .i64 q, nv, .int .u64 (v : Nat), dv, kv, av] 76) * Dev d P.s) (by ac_rfl) ?_
          refine ta_pure (i := 1) (listed' := #[true, true, false, false, false, false, false, false, false, false, false]) rfl (by kernel_rfl) (by kernel_rfl) (by kernel_rfl) rfl rfl (o_nilCheck rfl) ?_
          refine ta_pure (i := 2) (listed' := #[true, true, true, false, false, false, false, false, false, false, false]) rfl (by kernel_rfl) (by kernel_rfl) (by kernel_rfl) rfl rfl (o_fieldAddr (o := 0) Try.underlying46 rfl rfl sz41 rfl) ?_
          refine ta_pure (i := 4) (listed' := #[true, true, true, false, true, false, false, false, false, false, false]) rfl (by kernel_rfl) (by kernel_rfl) (by kernel_rfl) rfl rfl (o_move rfl) ?_
          refine ta_pure (i := 5) (listed' := #[true, true, true, false, true, true, false, false, false, false, false]) rfl (by kernel_rfl) (by kernel_rfl) (by kernel_rfl) rfl rfl (by first | exact o_mulI rfl rfl (by omega) | exact o_mul rfl rfl) ?_
          refine ta_pure (i := 6) (listed' := #[true, true, true, false, true, true, true, false, false, false, false]) rfl (by kernel_rfl) (by kernel_rfl) (by kernel_rfl) rfl rfl (o_fieldAddr (o := 3) Try.underlying76 rfl rfl sz53 rfl) ?_
          refine ta_two (i := 3) (j := 7) (by kernel_rfl) ?_ ?_
          · skip
            refine oa_v (i := 3) (listed' := #[true, true, true, true, true, true, true, false, false, false, false]) rfl rfl rfl (o_load p41 rfl (by repeat (first | exact has_here | exact has_pt | apply has_left)) rfl) ?_
            refine ta_one (i := 7) (by kernel_rfl) ?_
            refine oa_v (i := 7) (listed' := #[true, true, true, true, true, true, true, true, false, false, false]) rfl rfl rfl (o_load p53 rfl (by repeat (first | exact has_here | exact has_pt | apply has_left)) rfl) ?_
            refine ta_one (i := 8) (by kernel_rfl) ?_
            refine oa_c (i := 8) (listed' := #[true, true, true, true, true, true, true, true, true, false, false]) rfl rfl rfl (o_call bd40 rfl (Store8_f _ d v ((8 * wi q P.seen.length : Nat) : Int) P.s (by omega) hv64 (fun l hl => by have := hP.room l hl; omega))) ?_
            rintro _ _ ⟨rfl, rfl⟩
            refine ta_pure (i := 9) (listed' := #[true, true, true, true, true, true, true, true, true, true, false]) rfl (by kernel_rfl) (by kernel_rfl) (by kernel_rfl) rfl rfl (o_eqi rfl rfl) ?_
            refine ta_pure (i := 10) (listed' := #[true, true, true, true, true, true, true, true, true, true, true]) rfl (by kernel_rfl) (by kernel_rfl) (by kernel_rfl) rfl rfl (o_assign rfl) ?_
            refine ta_done (by kernel_rfl) ?_
            refine q_then_n ?_
            refine tc_ret ?_
            refine q_block_r (q_then_r ?_)
            have hmk : P.marks.getD (wi q P.seen.length / 8) 0 = P.marks[wi q P.seen.length / 8] := by simp [List.getD, hw8]
            have hhl : P.held.getD (wi q P.seen.length) [] = P.held[wi q P.seen.length] := by simp [List.getD, hwh]
            have e : stepP k q v P = (decide ((st8 ((8 * wi q P.seen.length : Nat) : Int) v P.s).1 = 0), ⟨(st8 ((8 * wi q P.seen.length : Nat) : Int) v P.s).2, P.seen.set (wi q P.seen.length) v, P.held.set (wi q P.seen.length) (P.held[wi q P.seen.length] ++ [v]), P.last, P.sure.set (wi q P.seen.length) false, P.marks.set (wi q P.seen.length / 8) 2⟩) := by
              unfold stepP; rw [if_pos hk, hhl, hmk, if_pos h]
            refine ⟨.bool (decide ((st8 ((8 * wi q P.seen.length : Nat) : Int) v P.s).1 = 0)), _, res1 rfl rfl, fun g w h => h.drop2, hvs.set (wi q P.seen.length) u, by rw [e], ?_⟩
            rw [e, plC_eq]
            simp only [List.length_set, wds_set', bos_set, ints_set]
          · skip
            refine oa_v (i := 7) (listed' := #[true, true, true, false, true, true, true, true, false, false, false]) rfl rfl rfl (o_load p53 rfl (by repeat (first | exact has_here | exact has_pt | apply has_left)) rfl) ?_
            refine ta_one (i := 3) (by kernel_rfl) ?_
            refine oa_v (i := 3) (listed' := #[true, true, true, true, true, true, true, true, false, false, false]) rfl rfl rfl (o_load p41 rfl (by repeat (first | exact has_here | exact has_pt | apply has_left)) rfl) ?_
            refine ta_one (i := 8) (by kernel_rfl) ?_
            refine oa_c (i := 8) (listed' := #[true, true, true, true, true, true, true, true, true, false, false]) rfl rfl rfl (o_call bd40 rfl (Store8_f _ d v ((8 * wi q P.seen.length : Nat) : Int) P.s (by omega) hv64 (fun l hl => by have := hP.room l hl; omega))) ?_
            rintro _ _ ⟨rfl, rfl⟩
            refine ta_pure (i := 9) (listed' := #[true, true, true, true, true, true, true, true, true, true, false]) rfl (by kernel_rfl) (by kernel_rfl) (by kernel_rfl) rfl rfl (o_eqi rfl rfl) ?_
            refine ta_pure (i := 10) (listed' := #[true, true, true, true, true, true, true, true, true, true, true]) rfl (by kernel_rfl) (by kernel_rfl) (by kernel_rfl) rfl rfl (o_assign rfl) ?_
            refine ta_done (by kernel_rfl) ?_
            refine q_then_n ?_
            refine tc_ret ?_
            refine q_block_r (q_then_r ?_)
            have hmk : P.marks.getD (wi q P.seen.length / 8) 0 = P.marks[wi q P.seen.length / 8] := by simp [List.getD, hw8]
            have hhl : P.held.getD (wi q P.seen.length) [] = P.held[wi q P.seen.length] := by simp [List.getD, hwh]
            have e : stepP k q v P = (decide ((st8 ((8 * wi q P.seen.length : Nat) : Int) v P.s).1 = 0), ⟨(st8 ((8 * wi q P.seen.length : Nat) : Int) v P.s).2, P.seen.set (wi q P.seen.length) v, P.held.set (wi q P.seen.length) (P.held[wi q P.seen.length] ++ [v]), P.last, P.sure.set (wi q P.seen.length) false, P.marks.set (wi q P.seen.length / 8) 2⟩) := by
              unfold stepP; rw [if_pos hk, hhl, hmk, if_pos h]
            refine ⟨.bool (decide ((st8 ((8 * wi q P.seen.length : Nat) : Int) v P.s).1 = 0)), _, res1 rfl rfl, fun g w h => h.drop2, hvs.set (wi q P.seen.length) u, by rw [e], ?_⟩
            rw [e, plC_eq]
            simp only [List.length_set, wds_set', bos_set, ints_set]
        · try simp only [decide_eq_true_eq, decide_eq_false_iff_not, Bool.not_eq_true', Bool.not_eq_false', Option.isNone_some, Option.isNone_none, Bool.not_true, Bool.not_false] at h
          refine tc_skip ?_
          refine q_then_n ?_
          refine tc_seq ?_
          refine tc_rega mo ?_
          show TA _ _ _ _ 11 #[false, false, false, false, false, false, false, false, false, false, false] _ _
          refine ta_pure (i := 0) (listed' := #[true, false, false, false, false, false, false, false, false, false, false]) rfl (by kernel_rfl) (by kernel_rfl) (by kernel_rfl) rfl rfl (o_move rfl) ?_
          refine ta_eq (A' := F * Words (hvs.set (wi q P.seen.length) u) (P.held.set (wi q P.seen.length) (P.held[wi q P.seen.length] ++ [v])) * pt p (cl (pcs d (.slice (some ⟨bs, os, none⟩) P.seen.length cs) (.slice (some ⟨bh, oh, none⟩) P.seen.length ch) (.slice (some ⟨bl, ol, none⟩) P.seen.length cL) (.slice (some ⟨bu, ou, none⟩) P.seen.length cu) (.slice (some ⟨bm, om, none⟩) P.marks.length cm)) 46) * Sl 1 (.slice (some ⟨bs, os, none⟩) P.seen.length cs) P.seen.length ((wds P.seen).set (wi q P.seen.length) (.int .u64 (v : Nat))) * Sl 1 (.slice (some ⟨bh, oh, none⟩) P.seen.length ch) P.seen.length (hvs.set (wi q P.seen.length) u) * Sl 1 (.slice (some ⟨bl, ol, none⟩) P.seen.length cL) P.seen.length (wds P.last) * Sl 1 (.slice (some ⟨bu, ou, none⟩) P.seen.length cu) P.seen.length ((bos P.sure).set (wi q P.seen.length) (.bool false)) * Sl 1 (.slice (some ⟨bm, om, none⟩) P.marks.length cm) P.marks.length (ints P.marks) * pt b3 (cl [.int .i64 k, .int .i64 q, nv, .int .u64 (v : Nat), dv, kv, av] 76) * Dev d P.s) (by ac_rfl) ?_
          refine ta_pure (i := 1) (listed' := #[true, true, false, false, false, false, false, false, false, false, false]) rfl (by kernel_rfl) (by kernel_rfl) (by kernel_rfl) rfl rfl (o_nilCheck rfl) ?_
          refine ta_pure (i := 2) (listed' := #[true, true, true, false, false, false, false, false, false, false, false]) rfl (by kernel_rfl) (by kernel_rfl) (by kernel_rfl) rfl rfl (o_fieldAddr (o := 0) Try.underlying46 rfl rfl sz41 rfl) ?_
          refine ta_pure (i := 4) (listed' := #[true, true, true, false, true, false, false, false, false, false, false]) rfl (by kernel_rfl) (by kernel_rfl) (by kernel_rfl) rfl rfl (o_move rfl) ?_
          refine ta_pure (i := 5) (listed' := #[true, true, true, false, true, true, false, false, false, false, false]) rfl (by kernel_rfl) (by kernel_rfl) (by kernel_rfl) rfl rfl (by first | exact o_mulI rfl rfl (by omega) | exact o_mul rfl rfl) ?_
          refine ta_pure (i := 6) (listed' := #[true, true, true, false, true, true, true, false, false, false, false]) rfl (by kernel_rfl) (by kernel_rfl) (by kernel_rfl) rfl rfl (o_fieldAddr (o := 3) Try.underlying76 rfl rfl sz53 rfl) ?_
          refine ta_two (i := 3) (j := 7) (by kernel_rfl) ?_ ?_
          · skip
            refine oa_v (i := 3) (listed' := #[true, true, true, true, true, true, true, false, false, false, false]) rfl rfl rfl (o_load p41 rfl (by repeat (first | exact has_here | exact has_pt | apply has_left)) rfl) ?_
            refine ta_one (i := 7) (by kernel_rfl) ?_
            refine oa_v (i := 7) (listed' := #[true, true, true, true, true, true, true, true, false, false, false]) rfl rfl rfl (o_load p53 rfl (by repeat (first | exact has_here | exact has_pt | apply has_left)) rfl) ?_
            refine ta_one (i := 8) (by kernel_rfl) ?_
            refine oa_c (i := 8) (listed' := #[true, true, true, true, true, true, true, true, true, false, false]) rfl rfl rfl (o_call bd40 rfl (Store8_f _ d v ((8 * wi q P.seen.length : Nat) : Int) P.s (by omega) hv64 (fun l hl => by have := hP.room l hl; omega))) ?_
            rintro _ _ ⟨rfl, rfl⟩
            refine ta_pure (i := 9) (listed' := #[true, true, true, true, true, true, true, true, true, true, false]) rfl (by kernel_rfl) (by kernel_rfl) (by kernel_rfl) rfl rfl (o_eqi rfl rfl) ?_
            refine ta_pure (i := 10) (listed' := #[true, true, true, true, true, true, true, true, true, true, true]) rfl (by kernel_rfl) (by kernel_rfl) (by kernel_rfl) rfl rfl (o_assign rfl) ?_
            refine ta_done (by kernel_rfl) ?_
            refine q_then_n ?_
            refine tc_ret ?_
            refine q_block_r (q_then_r ?_)
            have hmk : P.marks.getD (wi q P.seen.length / 8) 0 = P.marks[wi q P.seen.length / 8] := by simp [List.getD, hw8]
            have hhl : P.held.getD (wi q P.seen.length) [] = P.held[wi q P.seen.length] := by simp [List.getD, hwh]
            have e : stepP k q v P = (decide ((st8 ((8 * wi q P.seen.length : Nat) : Int) v P.s).1 = 0), ⟨(st8 ((8 * wi q P.seen.length : Nat) : Int) v P.s).2, P.seen.set (wi q P.seen.length) v, P.held.set (wi q P.seen.length) (P.held[wi q P.seen.length] ++ [v]), P.last, P.sure.set (wi q P.seen.length) false, P.marks⟩) := by
              unfold stepP; rw [if_pos hk, hhl, hmk, if_neg h]
            refine ⟨.bool (decide ((st8 ((8 * wi q P.seen.length : Nat) : Int) v P.s).1 = 0)), _, res1 rfl rfl, fun g w h => h.drop2, hvs.set (wi q P.seen.length) u, by rw [e], ?_⟩
            rw [e, plC_eq]
            simp only [List.length_set, wds_set', bos_set, ints_set]
          · skip
            refine oa_v (i := 7) (listed' := #[true, true, true, false, true, true, true, true, false, false, false]) rfl rfl rfl (o_load p53 rfl (by repeat (first | exact has_here | exact has_pt | apply has_left)) rfl) ?_
            refine ta_one (i := 3) (by kernel_rfl) ?_
            refine oa_v (i := 3) (listed' := #[true, true, true, true, true, true, true, true, false, false, false]) rfl rfl rfl (o_load p41 rfl (by repeat (first | exact has_here | exact has_pt | apply has_left)) rfl) ?_
            refine ta_one (i := 8) (by kernel_rfl) ?_
            refine oa_c (i := 8) (listed' := #[true, true, true, true, true, true, true, true, true, false, false]) rfl rfl rfl (o_call bd40 rfl (Store8_f _ d v ((8 * wi q P.seen.length : Nat) : Int) P.s (by omega) hv64 (fun l hl => by have := hP.room l hl; omega))) ?_
            rintro _ _ ⟨rfl, rfl⟩
            refine ta_pure (i := 9) (listed' := #[true, true, true, true, true, true, true, true, true, true, false]) rfl (by kernel_rfl) (by kernel_rfl) (by kernel_rfl) rfl rfl (o_eqi rfl rfl) ?_
            refine ta_pure (i := 10) (listed' := #[true, true, true, true, true, true, true, true, true, true, true]) rfl (by kernel_rfl) (by kernel_rfl) (by kernel_rfl) rfl rfl (o_assign rfl) ?_
            refine ta_done (by kernel_rfl) ?_
            refine q_then_n ?_
            refine tc_ret ?_
            refine q_block_r (q_then_r ?_)
            have hmk : P.marks.getD (wi q P.seen.length / 8) 0 = P.marks[wi q P.seen.length / 8] := by simp [List.getD, hw8]
            have hhl : P.held.getD (wi q P.seen.length) [] = P.held[wi q P.seen.length] := by simp [List.getD, hwh]
            have e : stepP k q v P = (decide ((st8 ((8 * wi q P.seen.length : Nat) : Int) v P.s).1 = 0), ⟨(st8 ((8 * wi q P.seen.length : Nat) : Int) v P.s).2, P.seen.set (wi q P.seen.length) v, P.held.set (wi q P.seen.length) (P.held[wi q P.seen.length] ++ [v]), P.last, P.sure.set (wi q P.seen.length) false, P.marks⟩) := by
              unfold stepP; rw [if_pos hk, hhl, hmk, if_neg h]
            refine ⟨.bool (decide ((st8 ((8 * wi q P.seen.length : Nat) : Int) v P.s).1 = 0)), _, res1 rfl rfl, fun g w h => h.drop2, hvs.set (wi q P.seen.length) u, by rw [e], ?_⟩
            rw [e, plC_eq]
            simp only [List.length_set, wds_set', bos_set, ints_set]
  · (exfalso; first | (revert h; simp; done) | (revert h; simp; omega) | (simp at h; omega) | omega)

set_option maxRecDepth 20000 in
set_option maxHeartbeats 2000000 in
theorem play3_f (F : SP) (p d v : Nat) (k q : Int) (nv dv kv av sv hv lv uv mv : Value) (hvs : List Value) (P : PlS) (hP : WfP 1 P) (hv64 : v < 18446744073709551616) (hk3 : k = 3) :
    Fn Try.prog 45 #[.pointer (some ⟨p, 0, none⟩), .agg [.int .i64 k, .int .i64 q, nv, .int .u64 (v : Nat), dv, kv, av].toArray] (F * PlC p d sv hv lv uv mv hvs P) (fun r B => ∃ hvs', r = .bool (stepP k q v P).1 ∧ B = F * PlC p d sv hv lv uv mv hvs' (stepP k q v P).2) := by
  have hE := @fn_enterW Try.prog 45 Try.f45 _ [.pointer (some ⟨p, 0, none⟩), .agg [.int .i64 k, .int .i64 q, nv, .int .u64 (v : Nat), dv, kv, av].toArray] (F * PlC p d sv hv lv uv mv hvs P) (fun r B => ∃ hvs', r = .bool (stepP k q v P).1 ∧ B = F * PlC p d sv hv lv uv mv hvs' (stepP k q v P).2) _ Try.func45 rfl Try.ntmps45 (by simp)
  refine hE ?_
  clear hE
  have hw0 : 0 < P.seen.length := by have := hP.seen; have := hP.pos; omega
  have hseen := hP.seen
  have htop := hP.top
  have hpos := hP.pos
  have hlastl := hP.last
  have hsurel := hP.sure
  have hheldl := hP.held
  have hlsl := hP.ls
  have hwlt := wi_lt (p := q) hw0
  have hw8 : wi q P.seen.length / 8 < P.marks.length := by omega
  refine tc_eq plC_eq ?_
  refine tc_have (fun _ _ h => Foc.have_sl1 (k := 1) (n := P.seen.length) (v := sv) (xs := wds P.seen) (Y := Sl 1 sv P.seen.length (wds P.seen)) (by repeat (first | exact foc_here | apply foc_left)) (by omega) h) fun ⟨bs, os, cs, hsv, _, _⟩ => ?_
  refine tc_have (fun _ _ h => Foc.have_sl1 (k := 1) (n := P.seen.length) (v := hv) (xs := hvs) (Y := Sl 1 hv P.seen.length hvs) (by repeat (first | exact foc_here | apply foc_left)) (by omega) h) fun ⟨bh, oh, ch, hhv, _, hvl⟩ => ?_
  refine tc_have (fun _ _ h => Foc.have_sl1 (k := 1) (n := P.seen.length) (v := lv) (xs := wds P.last) (Y := Sl 1 lv P.seen.length (wds P.last)) (by repeat (first | exact foc_here | apply foc_left)) (by omega) h) fun ⟨bl, ol, cL, hlv, _, _⟩ => ?_
  refine tc_have (fun _ _ h => Foc.have_sl1 (k := 1) (n := P.seen.length) (v := uv) (xs := bos P.sure) (Y := Sl 1 uv P.seen.length (bos P.sure)) (by repeat (first | exact foc_here | apply foc_left)) (by omega) h) fun ⟨bu, ou, cu, huv, _, _⟩ => ?_
  refine tc_have (fun _ _ h => Foc.have_sl1 (k := 1) (n := P.marks.length) (v := mv) (xs := ints P.marks) (Y := Sl 1 mv P.marks.length (ints P.marks)) (by repeat (first | exact foc_here | apply foc_left)) (by omega) h) fun ⟨bm, om, cm, hmv, _, _⟩ => ?_
  subst hsv hhv hlv huv hmv
  have hwh : wi q P.seen.length < P.held.length := by omega
  have hwv : wi q P.seen.length < hvs.length := by omega
  obtain ⟨R, hW1, hW2⟩ := words_get (vs := hvs) (ls := P.held) (i := wi q P.seen.length) (by omega) hwh
  have hW3 : ∀ u, Words (hvs.set (wi q P.seen.length) u) (P.held.set (wi q P.seen.length) (P.held[wi q P.seen.length] ++ [v])) = R * Sl 1 u (P.held[wi q P.seen.length].length + 1) (wds P.held[wi q P.seen.length] ++ [.int .u64 (v : Nat)]) := fun u => by
    rw [hW2, List.length_append]; unfold wds; rw [List.map_append]; rfl
  have hhroom := hP.hroom _ (List.getElem_mem hwh)
  refine tc_seq ?_
  refine tc_reg ?_
  refine tl_x rfl (o_box rfl rfl) ?_
  rintro _ _ ⟨b3, rfl, rfl⟩
  refine tl_v rfl (o_assign rfl) ?_
  refine tl_nil ?_
  refine q_then_n ?_
  refine tc_seq ?_
  refine tc_reg ?_
  refine tl_v rfl (o_move rfl) ?_
  refine tl_v rfl (o_nilCheck rfl) ?_
  refine tl_v rfl (o_fieldAddr (o := 1) Try.underlying46 rfl rfl sz42 rfl) ?_
  refine tl_v rfl (o_load p42 rfl (by repeat (first | exact has_here | exact has_pt | apply has_left)) rfl) ?_
  refine tl_v rfl (o_len Try.underlying42 rfl) ?_
  refine tl_v rfl (o_assign rfl) ?_
  refine tl_nil ?_
  refine q_then_n ?_
  refine tc_seq ?_
  refine tc_reg ?_
  refine tl_v rfl (o_fieldAddr (o := 1) Try.underlying76 rfl rfl sz3 rfl) ?_
  refine tl_v rfl (o_load p3 rfl (by repeat (first | exact has_here | exact has_pt | apply has_left)) rfl) ?_
  refine tl_v rfl (o_move rfl) ?_
  refine tl_c rfl (o_call bd37 rfl (within_f _ q (P.seen.length : Nat) (by omega))) ?_
  rintro _ _ ⟨rfl, rfl⟩
  refine tl_env (d := 18) (v := .int .i64 ((wi q P.seen.length : Nat) : Int)) (by show Value.int .i64 (q % (P.seen.length : Int)) = _; rw [wi_cast hw0]) ?_
  refine tl_v rfl (o_assign rfl) ?_
  refine tl_nil ?_
  refine q_then_n ?_
  refine tc_seq ?_
  refine tc_reg ?_
  refine tl_v rfl (o_move rfl) ?_
  refine tl_v rfl (o_quoN (a := wi q P.seen.length) (b := 8) rfl rfl (by omega)) ?_
  refine tl_v rfl (o_assign rfl) ?_
  refine tl_nil ?_
  refine q_then_n ?_
  refine tc_seq ?_
  refine tc_seq ?_
  refine tc_reg ?_
  refine tl_v rfl (o_fieldAddr (o := 0) Try.underlying76 rfl rfl sz3 rfl) ?_
  refine tl_v rfl (o_load p3 rfl (by repeat (first | exact has_here | exact has_pt | apply has_left)) rfl) ?_
  refine tl_nil ?_
  refine q_then_n ?_
  refine tc_block ?_
  refine tc_seq ?_
  refine tc_seq ?_
  refine tc_reg ?_
  refine tl_v rfl (o_eqi rfl rfl) ?_
  refine tl_v rfl (o_assign rfl) ?_
  refine tl_nil ?_
  refine q_then_n ?_
  refine tc_cond rfl (fun h => ?_) (fun h => ?_)
  · (exfalso; first | (revert h; simp; done) | (revert h; simp; omega) | (simp at h; omega) | omega)
  · try simp only [decide_eq_true_eq, decide_eq_false_iff_not, Bool.not_eq_true', Bool.not_eq_false', Option.isNone_some, Option.isNone_none, Bool.not_true, Bool.not_false] at h
    refine tc_reg ?_
    refine tl_v rfl (o_eqi rfl rfl) ?_
    refine tl_v rfl (o_assign rfl) ?_
    refine tl_nil ?_
    refine q_then_n ?_
    refine tc_cond rfl (fun h => ?_) (fun h => ?_)
    · have hk : k = 2 ∨ k = 3 := .inr hk3
      refine tc_seq ?_
      refine tc_cut (fun ρ A => ρ 0 = .pointer (some ⟨p, 0, none⟩) ∧ ρ 3 = .pointer (some ⟨b3, 0, none⟩) ∧ ρ 6 = .int .i64 (wi q P.seen.length : Nat) ∧ ρ 7 = .int .i64 (wi q P.seen.length / 8 : Nat) ∧ A = F * R * pt p (cl (pcs d (.slice (some ⟨bs, os, none⟩) P.seen.length cs) (.slice (some ⟨bh, oh, none⟩) P.seen.length ch) (.slice (some ⟨bl, ol, none⟩) P.seen.length cL) (.slice (some ⟨bu, ou, none⟩) P.seen.length cu) (.slice (some ⟨bm, om, none⟩) P.marks.length cm)) 46) * Sl 1 (.slice (some ⟨bs, os, none⟩) P.seen.length cs) P.seen.length ((wds P.seen).set (wi q P.seen.length) (.int .u64 (v : Nat))) * Sl 1 (.slice (some ⟨bh, oh, none⟩) P.seen.length ch) P.seen.length (hvs) * Sl 1 (.slice (some ⟨bl, ol, none⟩) P.seen.length cL) P.seen.length (wds P.last) * Sl 1 (.slice (some ⟨bu, ou, none⟩) P.seen.length cu) P.seen.length (bos P.sure) * Sl 1 (.slice (some ⟨bm, om, none⟩) P.marks.length cm) P.marks.length (ints P.marks) * Dev d P.s * pt b3 (cl [.int .i64 k, .int .i64 q, nv, .int .u64 (v : Nat), dv, kv, av] 76) * Sl 1 hvs[wi q P.seen.length] P.held[wi q P.seen.length].length (wds P.held[wi q P.seen.length])) ?_ ?_
      · skip
        refine tc_rega mo ?_
        show TA _ _ _ _ 9 #[false, false, false, false, false, false, false, false, false] _ _
        refine ta_pure (i := 0) (listed' := #[true, false, false, false, false, false, false, false, false]) rfl (by kernel_rfl) (by kernel_rfl) (by kernel_rfl) rfl rfl (o_move rfl) ?_
        refine ta_pure (i := 1) (listed' := #[true, true, false, false, false, false, false, false, false]) rfl (by kernel_rfl) (by kernel_rfl) (by kernel_rfl) rfl rfl (o_nilCheck rfl) ?_
        refine ta_pure (i := 2) (listed' := #[true, true, true, false, false, false, false, false, false]) rfl (by kernel_rfl) (by kernel_rfl) (by kernel_rfl) rfl rfl (o_fieldAddr (o := 1) Try.underlying46 rfl rfl sz42 rfl) ?_
        refine ta_pure (i := 4) (listed' := #[true, true, true, false, true, false, false, false, false]) rfl (by kernel_rfl) (by kernel_rfl) (by kernel_rfl) rfl rfl (o_move rfl) ?_
        refine ta_pure (i := 5) (listed' := #[true, true, true, false, true, true, false, false, false]) rfl (by kernel_rfl) (by kernel_rfl) (by kernel_rfl) rfl rfl (o_fieldAddr (o := 3) Try.underlying76 rfl rfl sz53 rfl) ?_
        refine ta_two (i := 3) (j := 6) (by kernel_rfl) ?_ ?_
        · skip
          refine oa_v (i := 3) (listed' := #[true, true, true, true, true, true, false, false, false]) rfl rfl rfl (o_load p42 rfl (by repeat (first | exact has_here | exact has_pt | apply has_left)) rfl) ?_
          refine ta_one (i := 6) (by kernel_rfl) ?_
          refine oa_v (i := 6) (listed' := #[true, true, true, true, true, true, true, false, false]) rfl rfl rfl (o_load p53 rfl (by repeat (first | exact has_here | exact has_pt | apply has_left)) rfl) ?_
          refine ta_pure (i := 7) (listed' := #[true, true, true, true, true, true, true, true, false]) rfl (by kernel_rfl) (by kernel_rfl) (by kernel_rfl) rfl rfl (o_indexAddrN1 (j := wi q P.seen.length) Try.underlying42 sz53 rfl rfl (by omega)) ?_
          refine ta_one (i := 8) (by kernel_rfl) ?_
          refine oa_u (i := 8) (listed' := #[true, true, true, true, true, true, true, true, true]) rfl rfl rfl (o_storeSl (i := wi q P.seen.length) sz53 rfl rfl rfl hwlt (by repeat (first | exact foc_here | apply foc_left)) ) ?_
          refine ta_done (by kernel_rfl) ?_
          exact ⟨rfl, rfl, rfl, rfl, by rw [hW1]; ac_rfl⟩
        · skip
          refine oa_v (i := 6) (listed' := #[true, true, true, false, true, true, true, false, false]) rfl rfl rfl (o_load p53 rfl (by repeat (first | exact has_here | exact has_pt | apply has_left)) rfl) ?_
          refine ta_one (i := 3) (by kernel_rfl) ?_
          refine oa_v (i := 3) (listed' := #[true, true, true, true, true, true, true, false, false]) rfl rfl rfl (o_load p42 rfl (by repeat (first | exact has_here | exact has_pt | apply has_left)) rfl) ?_
          refine ta_pure (i := 7) (listed' := #[true, true, true, true, true, true, true, true, false]) rfl (by kernel_rfl) (by kernel_rfl) (by kernel_rfl) rfl rfl (o_indexAddrN1 (j := wi q P.seen.length) Try.underlying42 sz53 rfl rfl (by omega)) ?_
          refine ta_one (i := 8) (by kernel_rfl) ?_
          refine oa_u (i := 8) (listed' := #[true, true, true, true, true, true, true, true, true]) rfl rfl rfl (o_storeSl (i := wi q P.seen.length) sz53 rfl rfl rfl hwlt (by repeat (first | exact foc_here | apply foc_left)) ) ?_
          refine ta_done (by kernel_rfl) ?_
          exact ⟨rfl, rfl, rfl, rfl, by rw [hW1]; ac_rfl⟩
      · intro ρ A hI
        obtain ⟨h0, h3, h6, h7, rfl⟩ := hI
        refine q_then_n ?_
        refine tc_env (d := 0) h0 ?_
        refine tc_env (d := 3) h3 ?_
        refine tc_env (d := 6) h6 ?_
        refine tc_env (d := 7) h7 ?_
        refine tc_seq ?_
        refine tc_cut (fun ρ A => ∃ u, ρ 0 = .pointer (some ⟨p, 0, none⟩) ∧ ρ 3 = .pointer (some ⟨b3, 0, none⟩) ∧ ρ 6 = .int .i64 (wi q P.seen.length : Nat) ∧ ρ 7 = .int .i64 (wi q P.seen.length / 8 : Nat) ∧ A = F * Words (hvs.set (wi q P.seen.length) u) (P.held.set (wi q P.seen.length) (P.held[wi q P.seen.length] ++ [v])) * pt p (cl (pcs d (.slice (some ⟨bs, os, none⟩) P.seen.length cs) (.slice (some ⟨bh, oh, none⟩) P.seen.length ch) (.slice (some ⟨bl, ol, none⟩) P.seen.length cL) (.slice (some ⟨bu, ou, none⟩) P.seen.length cu) (.slice (some ⟨bm, om, none⟩) P.marks.length cm)) 46) * Sl 1 (.slice (some ⟨bs, os, none⟩) P.seen.length cs) P.seen.length ((wds P.seen).set (wi q P.seen.length) (.int .u64 (v : Nat))) * Sl 1 (.slice (some ⟨bh, oh, none⟩) P.seen.length ch) P.seen.length (hvs.set (wi q P.seen.length) u) * Sl 1 (.slice (some ⟨bl, ol, none⟩) P.seen.length cL) P.seen.length (wds P.last) * Sl 1 (.slice (some ⟨bu, ou, none⟩) P.seen.length cu) P.seen.length (bos P.sure) * Sl 1 (.slice (some ⟨bm, om, none⟩) P.marks.length cm) P.marks.length (ints P.marks) * Dev d P.s * pt b3 (cl [.int .i64 k, .int .i64 q, nv, .int .u64 (v : Nat), dv, kv, av] 76)) ?_ ?_
        · skip
          refine tc_rega mo ?_
          show TA _ _ _ _ 18 #[false, false, false, false, false, false, false, false, false, false, false, false, false, false, false, false, false, false] _ _
          refine ta_pure (i := 0) (listed' := #[true, false, false, false, false, false, false, false, false, false, false, false, false, false, false, false, false, false]) rfl (by kernel_rfl) (by kernel_rfl) (by kernel_rfl) rfl rfl (o_move rfl) ?_
          refine ta_pure (i := 1) (listed' := #[true, true, false, false, false, false, false, false, false, false, false, false, false, false, false, false, false, false]) rfl (by kernel_rfl) (by kernel_rfl) (by kernel_rfl) rfl rfl (o_nilCheck rfl) ?_
          refine ta_pure (i := 2) (listed' := #[true, true, true, false, false, false, false, false, false, false, false, false, false, false, false, false, false, false]) rfl (by kernel_rfl) (by kernel_rfl) (by kernel_rfl) rfl rfl (o_fieldAddr (o := 2) Try.underlying46 rfl rfl sz43 rfl) ?_
          refine ta_pure (i := 4) (listed' := #[true, true, true, false, true, false, false, false, false, false, false, false, false, false, false, false, false, false]) rfl (by kernel_rfl) (by kernel_rfl) (by kernel_rfl) rfl rfl (o_move rfl) ?_
          refine ta_pure (i := 5) (listed' := #[true, true, true, false, true, true, false, false, false, false, false, false, false, false, false, false, false, false]) rfl (by kernel_rfl) (by kernel_rfl) (by kernel_rfl) rfl rfl (o_move rfl) ?_
          refine ta_pure (i := 6) (listed' := #[true, true, true, false, true, true, true, false, false, false, false, false, false, false, false, false, false, false]) rfl (by kernel_rfl) (by kernel_rfl) (by kernel_rfl) rfl rfl (o_nilCheck rfl) ?_
          refine ta_pure (i := 7) (listed' := #[true, true, true, false, true, true, true, true, false, false, false, false, false, false, false, false, false, false]) rfl (by kernel_rfl) (by kernel_rfl) (by kernel_rfl) rfl rfl (o_fieldAddr (o := 2) Try.underlying46 rfl rfl sz43 rfl) ?_
          refine ta_pure (i := 9) (listed' := #[true, true, true, false, true, true, true, true, false, true, false, false, false, false, false, false, false, false]) rfl (by kernel_rfl) (by kernel_rfl) (by kernel_rfl) rfl rfl (o_move rfl) ?_
          refine ta_pure (i := 12) (listed' := #[true, true, true, false, true, true, true, true, false, true, false, false, true, false, false, false, false, false]) rfl (by kernel_rfl) (by kernel_rfl) (by kernel_rfl) rfl rfl (o_fieldAddr (o := 3) Try.underlying76 rfl rfl sz53 rfl) ?_
          refine ta_three (i := 3) (j := 8) (k := 13) (by kernel_rfl) ?_ ?_ ?_
          · skip
            refine oa_v (i := 3) (listed' := #[true, true, true, true, true, true, true, true, false, true, false, false, true, false, false, false, false, false]) rfl rfl rfl (o_load p43 rfl (by repeat (first | exact has_here | exact has_pt | apply has_left)) rfl) ?_
            refine ta_two (i := 8) (j := 13) (by kernel_rfl) ?_ ?_
            · skip
              refine oa_v (i := 8) (listed' := #[true, true, true, true, true, true, true, true, true, true, false, false, true, false, false, false, false, false]) rfl rfl rfl (o_load p43 rfl (by repeat (first | exact has_here | exact has_pt | apply has_left)) rfl) ?_
              refine ta_pure (i := 10) (listed' := #[true, true, true, true, true, true, true, true, true, true, true, false, true, false, false, false, false, false]) rfl (by kernel_rfl) (by kernel_rfl) (by kernel_rfl) rfl rfl (o_indexAddrN1 (j := wi q P.seen.length) Try.underlying43 sz42 rfl rfl (by omega)) ?_
              refine ta_two (i := 11) (j := 13) (by kernel_rfl) ?_ ?_
              · skip
                refine oa_v (i := 11) (listed' := #[true, true, true, true, true, true, true, true, true, true, true, true, true, false, false, false, false, false]) rfl rfl rfl (o_loadSl (k := 1) (i := wi q P.seen.length) (v := hvs[wi q P.seen.length]) (xs := hvs) (Y := Sl 1 (.slice (some ⟨bh, oh, none⟩) P.seen.length ch) P.seen.length hvs) p42 rfl (by repeat (first | exact foc_here | apply foc_left)) (List.getElem?_eq_getElem hwv)) ?_
                refine ta_one (i := 13) (by kernel_rfl) ?_
                refine oa_v (i := 13) (listed' := #[true, true, true, true, true, true, true, true, true, true, true, true, true, true, false, false, false, false]) rfl rfl rfl (o_load p53 rfl (by repeat (first | exact has_here | exact has_pt | apply has_left)) rfl) ?_
                refine ta_one (i := 14) (by kernel_rfl) ?_
                refine oa_x (i := 14) (listed' := #[true, true, true, true, true, true, true, true, true, true, true, true, true, true, true, false, false, false]) rfl rfl rfl (o_buildSlice1 (v := .int .u64 (v : Nat)) Try.underlying42 sz53 z53 rfl rfl) ?_
                rintro _ _ ⟨b48, rfl, rfl⟩
                refine ta_one (i := 15) (by kernel_rfl) ?_
                refine oa_x (i := 15) (listed' := #[true, true, true, true, true, true, true, true, true, true, true, true, true, true, true, true, false, false]) rfl rfl rfl (o_append1 Try.underlying42 Try.underlying42 sz53 by53 z53 rfl (by decide) (by decide) rfl rfl rfl rfl rfl (by omega)) ?_
                rintro u49 _ rfl
                refine ta_have (fun _ _ h => sl_have h) fun ⟨_, _, hu, _, _, _⟩ => ?_
                have hu1 : oneC u49 = true := by rw [hu]; rfl
                refine ta_pure (i := 16) (listed' := #[true, true, true, true, true, true, true, true, true, true, true, true, true, true, true, true, true, false]) rfl (by kernel_rfl) (by kernel_rfl) (by kernel_rfl) rfl rfl (o_indexAddrN1 (j := wi q P.seen.length) Try.underlying43 sz42 rfl rfl (by omega)) ?_
                refine ta_one (i := 17) (by kernel_rfl) ?_
                refine oa_u (i := 17) (listed' := #[true, true, true, true, true, true, true, true, true, true, true, true, true, true, true, true, true, true]) rfl rfl rfl (o_storeSl (i := wi q P.seen.length) sz42 rfl rfl hu1 hwlt (by repeat (first | exact foc_here | apply foc_left)) ) ?_
                refine ta_done (by kernel_rfl) ?_
                exact ⟨u49, rfl, rfl, rfl, rfl, by rw [hW3]; ac_rfl⟩
              · skip
                refine oa_v (i := 13) (listed' := #[true, true, true, true, true, true, true, true, true, true, true, false, true, true, false, false, false, false]) rfl rfl rfl (o_load p53 rfl (by repeat (first | exact has_here | exact has_pt | apply has_left)) rfl) ?_
                refine ta_two (i := 11) (j := 14) (by kernel_rfl) ?_ ?_
                · skip
                  refine oa_v (i := 11) (listed' := #[true, true, true, true, true, true, true, true, true, true, true, true, true, true, false, false, false, false]) rfl rfl rfl (o_loadSl (k := 1) (i := wi q P.seen.length) (v := hvs[wi q P.seen.length]) (xs := hvs) (Y := Sl 1 (.slice (some ⟨bh, oh, none⟩) P.seen.length ch) P.seen.length hvs) p42 rfl (by repeat (first | exact foc_here | apply foc_left)) (List.getElem?_eq_getElem hwv)) ?_
                  refine ta_one (i := 14) (by kernel_rfl) ?_
                  refine oa_x (i := 14) (listed' := #[true, true, true, true, true, true, true, true, true, true, true, true, true, true, true, false, false, false]) rfl rfl rfl (o_buildSlice1 (v := .int .u64 (v : Nat)) Try.underlying42 sz53 z53 rfl rfl) ?_
                  rintro _ _ ⟨b48, rfl, rfl⟩
                  refine ta_one (i := 15) (by kernel_rfl) ?_
                  refine oa_x (i := 15) (listed' := #[true, true, true, true, true, true, true, true, true, true, true, true, true, true, true, true, false, false]) rfl rfl rfl (o_append1 Try.underlying42 Try.underlying42 sz53 by53 z53 rfl (by decide) (by decide) rfl rfl rfl rfl rfl (by omega)) ?_
                  rintro u49 _ rfl
                  refine ta_have (fun _ _ h => sl_have h) fun ⟨_, _, hu, _, _, _⟩ => ?_
                  have hu1 : oneC u49 = true := by rw [hu]; rfl
                  refine ta_pure (i := 16) (listed' := #[true, true, true, true, true, true, true, true, true, true, true, true, true, true, true, true, true, false]) rfl (by kernel_rfl) (by kernel_rfl) (by kernel_rfl) rfl rfl (o_indexAddrN1 (j := wi q P.seen.length) Try.underlying43 sz42 rfl rfl (by omega)) ?_
                  refine ta_one (i := 17) (by kernel_rfl) ?_
                  refine oa_u (i := 17) (listed' := #[true, true, true, true, true, true, true, true, true, true, true, true, true, true, true, true, true, true]) rfl rfl rfl (o_storeSl (i := wi q P.seen.length) sz42 rfl rfl hu1 hwlt (by repeat (first | exact foc_here | apply foc_left)) ) ?_
                  refine ta_done (by kernel_rfl) ?_
                  exact ⟨u49, rfl, rfl, rfl, rfl, by rw [hW3]; ac_rfl⟩
                · skip
                  refine oa_x (i := 14) (listed' := #[true, true, true, true, true, true, true, true, true, true, true, false, true, true, true, false, false, false]) rfl rfl rfl (o_buildSlice1 (v := .int .u64 (v : Nat)) Try.underlying42 sz53 z53 rfl rfl) ?_
                  rintro _ _ ⟨b48, rfl, rfl⟩
                  refine ta_one (i := 11) (by kernel_rfl) ?_
                  refine oa_v (i := 11) (listed' := #[true, true, true, true, true, true, true, true, true, true, true, true, true, true, true, false, false, false]) rfl rfl rfl (o_loadSl (k := 1) (i := wi q P.seen.length) (v := hvs[wi q P.seen.length]) (xs := hvs) (Y := Sl 1 (.slice (some ⟨bh, oh, none⟩) P.seen.length ch) P.seen.length hvs) p42 rfl (by repeat (first | exact foc_here | apply foc_left)) (List.getElem?_eq_getElem hwv)) ?_
                  refine ta_one (i := 15) (by kernel_rfl) ?_
                  refine oa_x (i := 15) (listed' := #[true, true, true, true, true, true, true, true, true, true, true, true, true, true, true, true, false, false]) rfl rfl rfl (o_append1 Try.underlying42 Try.underlying42 sz53 by53 z53 rfl (by decide) (by decide) rfl rfl rfl rfl rfl (by omega)) ?_
                  rintro u49 _ rfl
                  refine ta_have (fun _ _ h => sl_have h) fun ⟨_, _, hu, _, _, _⟩ => ?_
                  have hu1 : oneC u49 = true := by rw [hu]; rfl
                  refine ta_pure (i := 16) (listed' := #[true, true, true, true, true, true, true, true, true, true, true, true, true, true, true, true, true, false]) rfl (by kernel_rfl) (by kernel_rfl) (by kernel_rfl) rfl rfl (o_indexAddrN1 (j := wi q P.seen.length) Try.underlying43 sz42 rfl rfl (by omega)) ?_
                  refine ta_one (i := 17) (by kernel_rfl) ?_
                  refine oa_u (i := 17) (listed' := #[true, true, true, true, true, true, true, true, true, true, true, true, true, true, true, true, true, true]) rfl rfl rfl (o_storeSl (i := wi q P.seen.length) sz42 rfl rfl hu1 hwlt (by repeat (first | exact foc_here | apply foc_left)) ) ?_
                  refine ta_done (by kernel_rfl) ?_
                  exact ⟨u49, rfl, rfl, rfl, rfl, by rw [hW3]; ac_rfl⟩
            · skip
              refine oa_v (i := 13) (listed' := #[true, true, true, true, true, true, true, true, false, true, false, false, true, true, false, false, false, false]) rfl rfl rfl (o_load p53 rfl (by repeat (first | exact has_here | exact has_pt | apply has_left)) rfl) ?_
              refine ta_two (i := 8) (j := 14) (by kernel_rfl) ?_ ?_
              · skip
                refine oa_v (i := 8) (listed' := #[true, true, true, true, true, true, true, true, true, true, false, false, true, true, false, false, false, false]) rfl rfl rfl (o_load p43 rfl (by repeat (first | exact has_here | exact has_pt | apply has_left)) rfl) ?_
                refine ta_pure (i := 10) (listed' := #[true, true, true, true, true, true, true, true, true, true, true, false, true, true, false, false, false, false]) rfl (by kernel_rfl) (by kernel_rfl) (by kernel_rfl) rfl rfl (o_indexAddrN1 (j := wi q P.seen.length) Try.underlying43 sz42 rfl rfl (by omega)) ?_
                refine ta_two (i := 11) (j := 14) (by kernel_rfl) ?_ ?_
                · skip
                  refine oa_v (i := 11) (listed' := #[true, true, true, true, true, true, true, true, true, true, true, true, true, true, false, false, false, false]) rfl rfl rfl (o_loadSl (k := 1) (i := wi q P.seen.length) (v := hvs[wi q P.seen.length]) (xs := hvs) (Y := Sl 1 (.slice (some ⟨bh, oh, none⟩) P.seen.length ch) P.seen.length hvs) p42 rfl (by repeat (first | exact foc_here | apply foc_left)) (List.getElem?_eq_getElem hwv)) ?_
                  refine ta_one (i := 14) (by kernel_rfl) ?_
                  refine oa_x (i := 14) (listed' := #[true, true, true, true, true, true, true, true, true, true, true, true, true, true, true, false, false, false]) rfl rfl rfl (o_buildSlice1 (v := .int .u64 (v : Nat)) Try.underlying42 sz53 z53 rfl rfl) ?_
                  rintro _ _ ⟨b48, rfl, rfl⟩
                  refine ta_one (i := 15) (by kernel_rfl) ?_
                  refine oa_x (i := 15) (listed' := #[true, true, true, true, true, true, true, true, true, true, true, true, true, true, true, true, false, false]) rfl rfl rfl (o_append1 Try.underlying42 Try.underlying42 sz53 by53 z53 rfl (by decide) (by decide) rfl rfl rfl rfl rfl (by omega)) ?_
                  rintro u49 _ rfl
                  refine ta_have (fun _ _ h => sl_have h) fun ⟨_, _, hu, _, _, _⟩ => ?_
                  have hu1 : oneC u49 = true := by rw [hu]; rfl
                  refine ta_pure (i := 16) (listed' := #[true, true, true, true, true, true, true, true, true, true, true, true, true, true, true, true, true, false]) rfl (by kernel_rfl) (by kernel_rfl) (by kernel_rfl) rfl rfl (o_indexAddrN1 (j := wi q P.seen.length) Try.underlying43 sz42 rfl rfl (by omega)) ?_
                  refine ta_one (i := 17) (by kernel_rfl) ?_
                  refine oa_u (i := 17) (listed' := #[true, true, true, true, true, true, true, true, true, true, true, true, true, true, true, true, true, true]) rfl rfl rfl (o_storeSl (i := wi q P.seen.length) sz42 rfl rfl hu1 hwlt (by repeat (first | exact foc_here | apply foc_left)) ) ?_
                  refine ta_done (by kernel_rfl) ?_
                  exact ⟨u49, rfl, rfl, rfl, rfl, by rw [hW3]; ac_rfl⟩
                · skip
                  refine oa_x (i := 14) (listed' := #[true, true, true, true, true, true, true, true, true, true, true, false, true, true, true, false, false, false]) rfl rfl rfl (o_buildSlice1 (v := .int .u64 (v : Nat)) Try.underlying42 sz53 z53 rfl rfl) ?_
                  rintro _ _ ⟨b48, rfl, rfl⟩
                  refine ta_one (i := 11) (by kernel_rfl) ?_
                  refine oa_v (i := 11) (listed' := #[true, true, true, true, true, true, true, true, true, true, true, true, true, true, true, false, false, false]) rfl rfl rfl (o_loadSl (k := 1) (i := wi q P.seen.length) (v := hvs[wi q P.seen.length]) (xs := hvs) (Y := Sl 1 (.slice (some ⟨bh, oh, none⟩) P.seen.length ch) P.seen.length hvs) p42 rfl (by repeat (first | exact foc_here | apply foc_left)) (List.getElem?_eq_getElem hwv)) ?_
                  refine ta_one (i := 15) (by kernel_rfl) ?_
                  refine oa_x (i := 15) (listed' := #[true, true, true, true, true, true, true, true, true, true, true, true, true, true, true, true, false, false]) rfl rfl rfl (o_append1 Try.underlying42 Try.underlying42 sz53 by53 z53 rfl (by decide) (by decide) rfl rfl rfl rfl rfl (by omega)) ?_
                  rintro u49 _ rfl
                  refine ta_have (fun _ _ h => sl_have h) fun ⟨_, _, hu, _, _, _⟩ => ?_
                  have hu1 : oneC u49 = true := by rw [hu]; rfl
                  refine ta_pure (i := 16) (listed' := #[true, true, true, true, true, true, true, true, true, true, true, true, true, true, true, true, true, false]) rfl (by kernel_rfl) (by kernel_rfl) (by kernel_rfl) rfl rfl (o_indexAddrN1 (j := wi q P.seen.length) Try.underlying43 sz42 rfl rfl (by omega)) ?_
                  refine ta_one (i := 17) (by kernel_rfl) ?_
                  refine oa_u (i := 17) (listed' := #[true, true, true, true, true, true, true, true, true, true, true, true, true, true, true, true, true, true]) rfl rfl rfl (o_storeSl (i := wi q P.seen.length) sz42 rfl rfl hu1 hwlt (by repeat (first | exact foc_here | apply foc_left)) ) ?_
                  refine ta_done (by kernel_rfl) ?_
                  exact ⟨u49, rfl, rfl, rfl, rfl, by rw [hW3]; ac_rfl⟩
              · skip
                refine oa_x (i := 14) (listed' := #[true, true, true, true, true, true, true, true, false, true, false, false, true, true, true, false, false, false]) rfl rfl rfl (o_buildSlice1 (v := .int .u64 (v : Nat)) Try.underlying42 sz53 z53 rfl rfl) ?_
                rintro _ _ ⟨b48, rfl, rfl⟩
                refine ta_one (i := 8) (by kernel_rfl) ?_
                refine oa_v (i := 8) (listed' := #[true, true, true, true, true, true, true, true, true, true, false, false, true, true, true, false, false, false]) rfl rfl rfl (o_load p43 rfl (by repeat (first | exact has_here | exact has_pt | apply has_left)) rfl) ?_
                refine ta_pure (i := 10) (listed' := #[true, true, true, true, true, true, true, true, true, true, true, false, true, true, true, false, false, false]) rfl (by kernel_rfl) (by kernel_rfl) (by kernel_rfl) rfl rfl (o_indexAddrN1 (j := wi q P.seen.length) Try.underlying43 sz42 rfl rfl (by omega)) ?_
                refine ta_one (i := 11) (by kernel_rfl) ?_
                refine oa_v (i := 11) (listed' := #[true, true, true, true, true, true, true, true, true, true, true, true, true, true, true, false, false, false]) rfl rfl rfl (o_loadSl (k := 1) (i := wi q P.seen.length) (v := hvs[wi q P.seen.length]) (xs := hvs) (Y := Sl 1 (.slice (some ⟨bh, oh, none⟩) P.seen.length ch) P.seen.length hvs) p42 rfl (by repeat (first | exact foc_here | apply foc_left)) (List.getElem?_eq_getElem hwv)) ?_
                refine ta_one (i := 15) (by kernel_rfl) ?_
                refine oa_x (i := 15) (listed' := #[true, true, true, true, true, true, true, true, true, true, true, true, true, true, true, true, false, false]) rfl rfl rfl (o_append1 Try.underlying42 Try.underlying42 sz53 by53 z53 rfl (by decide) (by decide) rfl rfl rfl rfl rfl (by omega)) ?_
                rintro u49 _ rfl
                refine ta_have (fun _ _ h => sl_have h) fun ⟨_, _, hu, _, _, _⟩ => ?_
                have hu1 : oneC u49 = true := by rw [hu]; rfl
                refine ta_pure (i := 16) (listed' := #[true, true, true, true, true, true, true, true, true, true, true, true, true, true, true, true, true, false]) rfl (by kernel_rfl) (by kernel_rfl) (by kernel_rfl) rfl rfl (o_indexAddrN1 (j := wi q P.seen.length) Try.underlying43 sz42 rfl rfl (by omega)) ?_
                refine ta_one (i := 17) (by kernel_rfl) ?_
                refine oa_u (i := 17) (listed' := #[true, true, true, true, true, true, true, true, true, true, true, true, true, true, true, true, true, true]) rfl rfl rfl (o_storeSl (i := wi q P.seen.length) sz42 rfl rfl hu1 hwlt (by repeat (first | exact foc_here | apply foc_left)) ) ?_
                refine ta_done (by kernel_rfl) ?_
                exact ⟨u49, rfl, rfl, rfl, rfl, by rw [hW3]; ac_rfl⟩
          · skip
            refine oa_v (i := 8) (listed' := #[true, true, true, false, true, true, true, true, true, true, false, false, true, false, false, false, false, false]) rfl rfl rfl (o_load p43 rfl (by repeat (first | exact has_here | exact has_pt | apply has_left)) rfl) ?_
            refine ta_pure (i := 10) (listed' := #[true, true, true, false, true, true, true, true, true, true, true, false, true, false, false, false, false, false]) rfl (by kernel_rfl) (by kernel_rfl) (by kernel_rfl) rfl rfl (o_indexAddrN1 (j := wi q P.seen.length) Try.underlying43 sz42 rfl rfl (by omega)) ?_
            refine ta_three (i := 3) (j := 11) (k := 13) (by kernel_rfl) ?_ ?_ ?_
            · skip
              refine oa_v (i := 3) (listed' := #[true, true, true, true, true, true, true, true, true, true, true, false, true, false, false, false, false, false]) rfl rfl rfl (o_load p43 rfl (by repeat (first | exact has_here | exact has_pt | apply has_left)) rfl) ?_
              refine ta_two (i := 11) (j := 13) (by kernel_rfl) ?_ ?_
              · skip
                refine oa_v (i := 11) (listed' := #[true, true, true, true, true, true, true, true, true, true, true, true, true, false, false, false, false, false]) rfl rfl rfl (o_loadSl (k := 1) (i := wi q P.seen.length) (v := hvs[wi q P.seen.length]) (xs := hvs) (Y := Sl 1 (.slice (some ⟨bh, oh, none⟩) P.seen.length ch) P.seen.length hvs) p42 rfl (by repeat (first | exact foc_here | apply foc_left)) (List.getElem?_eq_getElem hwv)) ?_
                refine ta_one (i := 13) (by kernel_rfl) ?_
                refine oa_v (i := 13) (listed' := #[true, true, true, true, true, true, true, true, true, true, true, true, true, true, false, false, false, false]) rfl rfl rfl (o_load p53 rfl (by repeat (first | exact has_here | exact has_pt | apply has_left)) rfl) ?_
                refine ta_one (i := 14) (by kernel_rfl) ?_
                refine oa_x (i := 14) (listed' := #[true, true, true, true, true, true, true, true, true, true, true, true, true, true, true, false, false, false]) rfl rfl rfl (o_buildSlice1 (v := .int .u64 (v : Nat)) Try.underlying42 sz53 z53 rfl rfl) ?_
                rintro _ _ ⟨b48, rfl, rfl⟩
                refine ta_one (i := 15) (by kernel_rfl) ?_
                refine oa_x (i := 15) (listed' := #[true, true, true, true, true, true, true, true, true, true, true, true, true, true, true, true, false, false]) rfl rfl rfl (o_append1 Try.underlying42 Try.underlying42 sz53 by53 z53 rfl (by decide) (by decide) rfl rfl rfl rfl rfl (by omega)) ?_
                rintro u49 _ rfl
                refine ta_have (fun _ _ h => sl_have h) fun ⟨_, _, hu, _, _, _⟩ => ?_
                have hu1 : oneC u49 = true := by rw [hu]; rfl
                refine ta_pure (i := 16) (listed' := #[true, true, true, true, true, true, true, true, true, true, true, true, true, true, true, true, true, false]) rfl (by kernel_rfl) (by kernel_rfl) (by kernel_rfl) rfl rfl (o_indexAddrN1 (j := wi q P.seen.length) Try.underlying43 sz42 rfl rfl (by omega)) ?_
                refine ta_one (i := 17) (by kernel_rfl) ?_
                refine oa_u (i := 17) (listed' := #[true, true, true, true, true, true, true, true, true, true, true, true, true, true, true, true, true, true]) rfl rfl rfl (o_storeSl (i := wi q P.seen.length) sz42 rfl rfl hu1 hwlt (by repeat (first | exact foc_here | apply foc_left)) ) ?_
                refine ta_done (by kernel_rfl) ?_
                exact ⟨u49, rfl, rfl, rfl, rfl, by rw [hW3]; ac_rfl⟩
              · skip
                refine oa_v (i := 13) (listed' := #[true, true, true, true, true, true, true, true, true, true, true, false, true, true, false, false, false, false]) rfl rfl rfl (o_load p53 rfl (by repeat (first | exact has_here | exact has_pt | apply has_left)) rfl) ?_
                refine ta_two (i := 11) (j := 14) (by kernel_rfl) ?_ ?_
                · skip
                  refine oa_v (i := 11) (listed' := #[true, true, true, true, true, true, true, true, true, true, true, true, true, true, false, false, false, false]) rfl rfl rfl (o_loadSl (k := 1) (i := wi q P.seen.length) (v := hvs[wi q P.seen.length]) (xs := hvs) (Y := Sl 1 (.slice (some ⟨bh, oh, none⟩) P.seen.length ch) P.seen.length hvs) p42 rfl (by repeat (first | exact foc_here | apply foc_left)) (List.getElem?_eq_getElem hwv)) ?_
                  refine ta_one (i := 14) (by kernel_rfl) ?_
                  refine oa_x (i := 14) (listed' := #[true, true, true, true, true, true, true, true, true, true, true, true, true, true, true, false, false, false]) rfl rfl rfl (o_buildSlice1 (v := .int .u64 (v : Nat)) Try.underlying42 sz53 z53 rfl rfl) ?_
                  rintro _ _ ⟨b48, rfl, rfl⟩
                  refine ta_one (i := 15) (by kernel_rfl) ?_
                  refine oa_x (i := 15) (listed' := #[true, true, true, true, true, true, true, true, true, true, true, true, true, true, true, true, false, false]) rfl rfl rfl (o_append1 Try.underlying42 Try.underlying42 sz53 by53 z53 rfl (by decide) (by decide) rfl rfl rfl rfl rfl (by omega)) ?_
                  rintro u49 _ rfl
                  refine ta_have (fun _ _ h => sl_have h) fun ⟨_, _, hu, _, _, _⟩ => ?_
                  have hu1 : oneC u49 = true := by rw [hu]; rfl
                  refine ta_pure (i := 16) (listed' := #[true, true, true, true, true, true, true, true, true, true, true, true, true, true, true, true, true, false]) rfl (by kernel_rfl) (by kernel_rfl) (by kernel_rfl) rfl rfl (o_indexAddrN1 (j := wi q P.seen.length) Try.underlying43 sz42 rfl rfl (by omega)) ?_
                  refine ta_one (i := 17) (by kernel_rfl) ?_
                  refine oa_u (i := 17) (listed' := #[true, true, true, true, true, true, true, true, true, true, true, true, true, true, true, true, true, true]) rfl rfl rfl (o_storeSl (i := wi q P.seen.length) sz42 rfl rfl hu1 hwlt (by repeat (first | exact foc_here | apply foc_left)) ) ?_
                  refine ta_done (by kernel_rfl) ?_
                  exact ⟨u49, rfl, rfl, rfl, rfl, by rw [hW3]; ac_rfl⟩
                · skip
                  refine oa_x (i := 14) (listed' := #[true, true, true, true, true, true, true, true, true, true, true, false, true, true, true, false, false, false]) rfl rfl rfl (o_buildSlice1 (v := .int .u64 (v : Nat)) Try.underlying42 sz53 z53 rfl rfl) ?_
                  rintro _ _ ⟨b48, rfl, rfl⟩
                  refine ta_one (i := 11) (by kernel_rfl) ?_
                  refine oa_v (i := 11) (listed' := #[true, true, true, true, true, true, true, true, true, true, true, true, true, true, true, false, false, false]) rfl rfl rfl (o_loadSl (k := 1) (i := wi q P.seen.length) (v := hvs[wi q P.seen.length]) (xs := hvs) (Y := Sl 1 (.slice (some ⟨bh, oh, none⟩) P.seen.length ch) P.seen.length hvs) p42 rfl (by repeat (first | exact foc_here | apply foc_left)) (List.getElem?_eq_getElem hwv)) ?_
                  refine ta_one (i := 15) (by kernel_rfl) ?_
                  refine oa_x (i := 15) (listed' := #[true, true, true, true, true, true, true, true, true, true, true, true, true, true, true, true, false, false]) rfl rfl rfl (o_append1 Try.underlying42 Try.underlying42 sz53 by53 z53 rfl (by decide) (by decide) rfl rfl rfl rfl rfl (by omega)) ?_
                  rintro u49 _ rfl
                  refine ta_have (fun _ _ h => sl_have h) fun ⟨_, _, hu, _, _, _⟩ => ?_
                  have hu1 : oneC u49 = true := by rw [hu]; rfl
                  refine ta_pure (i := 16) (listed' := #[true, true, true, true, true, true, true, true, true, true, true, true, true, true, true, true, true, false]) rfl (by kernel_rfl) (by kernel_rfl) (by kernel_rfl) rfl rfl (o_indexAddrN1 (j := wi q P.seen.length) Try.underlying43 sz42 rfl rfl (by omega)) ?_
                  refine ta_one (i := 17) (by kernel_rfl) ?_
                  refine oa_u (i := 17) (listed' := #[true, true, true, true, true, true, true, true, true, true, true, true, true, true, true, true, true, true]) rfl rfl rfl (o_storeSl (i := wi q P.seen.length) sz42 rfl rfl hu1 hwlt (by repeat (first | exact foc_here | apply foc_left)) ) ?_
                  refine ta_done (by kernel_rfl) ?_
                  exact ⟨u49, rfl, rfl, rfl, rfl, by rw [hW3]; ac_rfl⟩
            · skip
              refine oa_v (i := 11) (listed' := #[true, true, true, false, true, true, true, true, true, true, true, true, true, false, false, false, false, false]) rfl rfl rfl (o_loadSl (k := 1) (i := wi q P.seen.length) (v := hvs[wi q P.seen.length]) (xs := hvs) (Y := Sl 1 (.slice (some ⟨bh, oh, none⟩) P.seen.length ch) P.seen.length hvs) p42 rfl (by repeat (first | exact foc_here | apply foc_left)) (List.getElem?_eq_getElem hwv)) ?_
              refine ta_two (i := 3) (j := 13) (by kernel_rfl) ?_ ?_
              · skip
                refine oa_v (i := 3) (listed' := #[true, true, true, true, true, true, true, true, true, true, true, true, true, false, false, false, false, false]) rfl rfl rfl (o_load p43 rfl (by repeat (first | exact has_here | exact has_pt | apply has_left)) rfl) ?_
                refine ta_one (i := 13) (by kernel_rfl) ?_
                refine oa_v (i := 13) (listed' := #[true, true, true, true, true, true, true, true, true, true, true, true, true, true, false, false, false, false]) rfl rfl rfl (o_load p53 rfl (by repeat (first | exact has_here | exact has_pt | apply has_left)) rfl) ?_
                refine ta_one (i := 14) (by kernel_rfl) ?_
                refine oa_x (i := 14) (listed' := #[true, true, true, true, true, true, true, true, true, true, true, true, true, true, true, false, false, false]) rfl rfl rfl (o_buildSlice1 (v := .int .u64 (v : Nat)) Try.underlying42 sz53 z53 rfl rfl) ?_
                rintro _ _ ⟨b48, rfl, rfl⟩
                refine ta_one (i := 15) (by kernel_rfl) ?_
                refine oa_x (i := 15) (listed' := #[true, true, true, true, true, true, true, true, true, true, true, true, true, true, true, true, false, false]) rfl rfl rfl (o_append1 Try.underlying42 Try.underlying42 sz53 by53 z53 rfl (by decide) (by decide) rfl rfl rfl rfl rfl (by omega)) ?_
                rintro u49 _ rfl
                refine ta_have (fun _ _ h => sl_have h) fun ⟨_, _, hu, _, _, _⟩ => ?_
                have hu1 : oneC u49 = true := by rw [hu]; rfl
                refine ta_pure (i := 16) (listed' := #[true, true, true, true, true, true, true, true, true, true, true, true, true, true, true, true, true, false]) rfl (by kernel_rfl) (by kernel_rfl) (by kernel_rfl) rfl rfl (o_indexAddrN1 (j := wi q P.seen.length) Try.underlying43 sz42 rfl rfl (by omega)) ?_
                refine ta_one (i := 17) (by kernel_rfl) ?_
                refine oa_u (i := 17) (listed' := #[true, true, true, true, true, true, true, true, true, true, true, true, true, true, true, true, true, true]) rfl rfl rfl (o_storeSl (i := wi q P.seen.length) sz42 rfl rfl hu1 hwlt (by repeat (first | exact foc_here | apply foc_left)) ) ?_
                refine ta_done (by kernel_rfl) ?_
                exact ⟨u49, rfl, rfl, rfl, rfl, by rw [hW3]; ac_rfl⟩
              · skip
                refine oa_v (i := 13) (listed' := #[true, true, true, false, true, true, true, true, true, true, true, true, true, true, false, false, false, false]) rfl rfl rfl (o_load p53 rfl (by repeat (first | exact has_here | exact has_pt | apply has_left)) rfl) ?_
                refine ta_two (i := 3) (j := 14) (by kernel_rfl) ?_ ?_
                · skip
                  refine oa_v (i := 3) (listed' := #[true, true, true, true, true, true, true, true, true, true, true, true, true, true, false, false, false, false]) rfl rfl rfl (o_load p43 rfl (by repeat (first | exact has_here | exact has_pt | apply has_left)) rfl) ?_
                  refine ta_one (i := 14) (by kernel_rfl) ?_
                  refine oa_x (i := 14) (listed' := #[true, true, true, true, true, true, true, true, true, true, true, true, true, true, true, false, false, false]) rfl rfl rfl (o_buildSlice1 (v := .int .u64 (v : Nat)) Try.underlying42 sz53 z53 rfl rfl) ?_
                  rintro _ _ ⟨b48, rfl, rfl⟩
                  refine ta_one (i := 15) (by kernel_rfl) ?_
                  refine oa_x (i := 15) (listed' := #[true, true, true, true, true, true, true, true, true, true, true, true, true, true, true, true, false, false]) rfl rfl rfl (o_append1 Try.underlying42 Try.underlying42 sz53 by53 z53 rfl (by decide) (by decide) rfl rfl rfl rfl rfl (by omega)) ?_
                  rintro u49 _ rfl
                  refine ta_have (fun _ _ h => sl_have h) fun ⟨_, _, hu, _, _, _⟩ => ?_
                  have hu1 : oneC u49 = true := by rw [hu]; rfl
                  refine ta_pure (i := 16) (listed' := #[true, true, true, true, true, true, true, true, true, true, true, true, true, true, true, true, true, false]) rfl (by kernel_rfl) (by kernel_rfl) (by kernel_rfl) rfl rfl (o_indexAddrN1 (j := wi q P.seen.length) Try.underlying43 sz42 rfl rfl (by omega)) ?_
                  refine ta_one (i := 17) (by kernel_rfl) ?_
                  refine oa_u (i := 17) (listed' := #[true, true, true, true, true, true, true, true, true, true, true, true, true, true, true, true, true, true]) rfl rfl rfl (o_storeSl (i := wi q P.seen.length) sz42 rfl rfl hu1 hwlt (by repeat (first | exact foc_here | apply foc_left)) ) ?_
                  refine ta_done (by kernel_rfl) ?_
                  exact ⟨u49, rfl, rfl, rfl, rfl, by rw [hW3]; ac_rfl⟩
                · skip
                  refine oa_x (i := 14) (listed' := #[true, true, true, false, true, true, true, true, true, true, true, true, true, true, true, false, false, false]) rfl rfl rfl (o_buildSlice1 (v := .int .u64 (v : Nat)) Try.underlying42 sz53 z53 rfl rfl) ?_
                  rintro _ _ ⟨b48, rfl, rfl⟩
                  refine ta_two (i := 3) (j := 15) (by kernel_rfl) ?_ ?_
                  · skip
                    refine oa_v (i := 3) (listed' := #[true, true, true, true, true, true, true, true, true, true, true, true, true, true, true, false, false, false]) rfl rfl rfl (o_load p43 rfl (by repeat (first | exact has_here | exact has_pt | apply has_left)) rfl) ?_
                    refine ta_one (i := 15) (by kernel_rfl) ?_
                    refine oa_x (i := 15) (listed' := #[true, true, true, true, true, true, true, true, true, true, true, true, true, true, true, true, false, false]) rfl rfl rfl (o_append1 Try.underlying42 Try.underlying42 sz53 by53 z53 rfl (by decide) (by decide) rfl rfl rfl rfl rfl (by omega)) ?_
                    rintro u49 _ rfl
                    refine ta_have (fun _ _ h => sl_have h) fun ⟨_, _, hu, _, _, _⟩ => ?_
                    have hu1 : oneC u49 = true := by rw [hu]; rfl
                    refine ta_pure (i := 16) (listed' := #[true, true, true, true, true, true, true, true, true, true, true, true, true, true, true, true, true, false]) rfl (by kernel_rfl) (by kernel_rfl) (by kernel_rfl) rfl rfl (o_indexAddrN1 (j := wi q P.seen.length) Try.underlying43 sz42 rfl rfl (by omega)) ?_
                    refine ta_one (i := 17) (by kernel_rfl) ?_
                    refine oa_u (i := 17) (listed' := #[true, true, true, true, true, true, true, true, true, true, true, true, true, true, true, true, true, true]) rfl rfl rfl (o_storeSl (i := wi q P.seen.length) sz42 rfl rfl hu1 hwlt (by repeat (first | exact foc_here | apply foc_left)) ) ?_
                    refine ta_done (by kernel_rfl) ?_
                    exact ⟨u49, rfl, rfl, rfl, rfl, by rw [hW3]; ac_rfl⟩
                  · skip
                    refine oa_x (i := 15) (listed' := #[true, true, true, false, true, true, true, true, true, true, true, true, true, true, true, true, false, false]) rfl rfl rfl (o_append1 Try.underlying42 Try.underlying42 sz53 by53 z53 rfl (by decide) (by decide) rfl rfl rfl rfl rfl (by omega)) ?_
                    rintro u49 _ rfl
                    refine ta_have (fun _ _ h => sl_have h) fun ⟨_, _, hu, _, _, _⟩ => ?_
                    have hu1 : oneC u49 = true := by rw [hu]; rfl
                    refine ta_one (i := 3) (by kernel_rfl) ?_
                    refine oa_v (i := 3) (listed' := #[true, true, true, true, true, true, true, true, true, true, true, true, true, true, true, true, false, false]) rfl rfl rfl (o_load p43 rfl (by repeat (first | exact has_here | exact has_pt | apply has_left)) rfl) ?_
                    refine ta_pure (i := 16) (listed' := #[true, true, true, true, true, true, true, true, true, true, true, true, true, true, true, true, true, false]) rfl (by kernel_rfl) (by kernel_rfl) (by kernel_rfl) rfl rfl (o_indexAddrN1 (j := wi q P.seen.length) Try.underlying43 sz42 rfl rfl (by omega)) ?_
                    refine ta_one (i := 17) (by kernel_rfl) ?_
                    refine oa_u (i := 17) (listed' := #[true, true, true, true, true, true, true, true, true, true, true, true, true, true, true, true, true, true]) rfl rfl rfl (o_storeSl (i := wi q P.seen.length) sz42 rfl rfl hu1 hwlt (by repeat (first | exact foc_here | apply foc_left)) ) ?_
                    refine ta_done (by kernel_rfl) ?_
                    exact ⟨u49, rfl, rfl, rfl, rfl, by rw [hW3]; ac_rfl⟩
            · skip
              refine oa_v (i := 13) (listed' := #[true, true, true, false, true, true, true, true, true, true, true, false, true, true, false, false, false, false]) rfl rfl rfl (o_load p53 rfl (by repeat (first | exact has_here | exact has_pt | apply has_left)) rfl) ?_
              refine ta_three (i := 3) (j := 11) (k := 14) (by kernel_rfl) ?_ ?_ ?_
              · skip
                refine oa_v (i := 3) (listed' := #[true, true, true, true, true, true, true, true, true, true, true, false, true, true, false, false, false, false]) rfl rfl rfl (o_load p43 rfl (by repeat (first | exact has_here | exact has_pt | apply has_left)) rfl) ?_
                refine ta_two (i := 11) (j := 14) (by kernel_rfl) ?_ ?_
                · skip
                  refine oa_v (i := 11) (listed' := #[true, true, true, true, true, true, true, true, true, true, true, true, true, true, false, false, false, false]) rfl rfl rfl (o_loadSl (k := 1) (i := wi q P.seen.length) (v := hvs[wi q P.seen.length]) (xs := hvs) (Y := Sl 1 (.slice (some ⟨bh, oh, none⟩) P.seen.length ch) P.seen.length hvs) p42 rfl (by repeat (first | exact foc_here | apply foc_left)) (List.getElem?_eq_getElem hwv)) ?_
                  refine ta_one (i := 14) (by kernel_rfl) ?_
                  refine oa_x (i := 14) (listed' := #[true, true, true, true, true, true, true, true, true, true, true, true, true, true, true, false, false, false]) rfl rfl rfl (o_buildSlice1 (v := .int .u64 (v : Nat)) Try.underlying42 sz53 z53 rfl rfl) ?_
                  rintro _ _ ⟨b48, rfl, rfl⟩
                  refine ta_one (i := 15) (by kernel_rfl) ?_
                  refine oa_x (i := 15) (listed' := #[true, true, true, true, true, true, true, true, true, true, true, true, true, true, true, true, false, false]) rfl rfl rfl (o_append1 Try.underlying42 Try.underlying42 sz53 by53 z53 rfl (by decide) (by decide) rfl rfl rfl rfl rfl (by omega)) ?_
                  rintro u49 _ rfl
                  refine ta_have (fun _ _ h => sl_have h) fun ⟨_, _, hu, _, _, _⟩ => ?_
                  have hu1 : oneC u49 = true := by rw [hu]; rfl
                  refine ta_pure (i := 16) (listed' := #[true, true, true, true, true, true, true, true, true, true, true, true, true, true, true, true, true, false]) rfl (by kernel_rfl) (by kernel_rfl) (by kernel_rfl) rfl rfl (o_indexAddrN1 (j := wi q P.seen.length) Try.underlying43 sz42 rfl rfl (by omega)) ?_
                  refine ta_one (i := 17) (by kernel_rfl) ?_
                  refine oa_u (i := 17) (listed' := #[true, true, true, true, true, true, true, true, true, true, true, true, true, true, true, true, true, true]) rfl rfl rfl (o_storeSl (i := wi q P.seen.length) sz42 rfl rfl hu1 hwlt (by repeat (first | exact foc_here | apply foc_left)) ) ?_
                  refine ta_done (by kernel_rfl) ?_
                  exact ⟨u49, rfl, rfl, rfl, rfl, by rw [hW3]; ac_rfl⟩
                · skip
                  refine oa_x (i := 14) (listed' := #[true, true, true, true, true, true, true, true, true, true, true, false, true, true, true, false, false, false]) rfl rfl rfl (o_buildSlice1 (v := .int .u64 (v : Nat)) Try.underlying42 sz53 z53 rfl rfl) ?_
                  rintro _ _ ⟨b48, rfl, rfl⟩
                  refine ta_one (i := 11) (by kernel_rfl) ?_
                  refine oa_v (i := 11) (listed' := #[true, true, true, true, true, true, true, true, true, true, true, true, true, true, true, false, false, false]) rfl rfl rfl (o_loadSl (k := 1) (i := wi q P.seen.length) (v := hvs[wi q P.seen.length]) (xs := hvs) (Y := Sl 1 (.slice (some ⟨bh, oh, none⟩) P.seen.length ch) P.seen.length hvs) p42 rfl (by repeat (first | exact foc_here | apply foc_left)) (List.getElem?_eq_getElem hwv)) ?_
                  refine ta_one (i := 15) (by kernel_rfl) ?_
                  refine oa_x (i := 15) (listed' := #[true, true, true, true, true, true, true, true, true, true, true, true, true, true, true, true, false, false]) rfl rfl rfl (o_append1 Try.underlying42 Try.underlying42 sz53 by53 z53 rfl (by decide) (by decide) rfl rfl rfl rfl rfl (by omega)) ?_
                  rintro u49 _ rfl
                  refine ta_have (fun _ _ h => sl_have h) fun ⟨_, _, hu, _, _, _⟩ => ?_
                  have hu1 : oneC u49 = true := by rw [hu]; rfl
                  refine ta_pure (i := 16) (listed' := #[true, true, true, true, true, true, true, true, true, true, true, true, true, true, true, true, true, false]) rfl (by kernel_rfl) (by kernel_rfl) (by kernel_rfl) rfl rfl (o_indexAddrN1 (j := wi q P.seen.length) Try.underlying43 sz42 rfl rfl (by omega)) ?_
                  refine ta_one (i := 17) (by kernel_rfl) ?_
                  refine oa_u (i := 17) (listed' := #[true, true, true, true, true, true, true, true, true, true, true, true, true, true, true, true, true, true]) rfl rfl rfl (o_storeSl (i := wi q P.seen.length) sz42 rfl rfl hu1 hwlt (by repeat (first | exact foc_here | apply foc_left)) ) ?_
                  refine ta_done (by kernel_rfl) ?_
                  exact ⟨u49, rfl, rfl, rfl, rfl, by rw [hW3]; ac_rfl⟩
              · skip
                refine oa_v (i := 11) (listed' := #[true, true, true, false, true, true, true, true, true, true, true, true, true, true, false, false, false, false]) rfl rfl rfl (o_loadSl (k := 1) (i := wi q P.seen.length) (v := hvs[wi q P.seen.length]) (xs := hvs) (Y := Sl 1 (.slice (some ⟨bh, oh, none⟩) P.seen.length ch) P.seen.length hvs) p42 rfl (by repeat (first | exact foc_here | apply foc_left)) (List.getElem?_eq_getElem hwv)) ?_
                refine ta_two (i := 3) (j := 14) (by kernel_rfl) ?_ ?_
                · skip
                  refine oa_v (i := 3) (listed' := #[true, true, true, true, true, true, true, true, true, true, true, true, true, true, false, false, false, false]) rfl rfl rfl (o_load p43 rfl (by repeat (first | exact has_here | exact has_pt | apply has_left)) rfl) ?_
                  refine ta_one (i := 14) (by kernel_rfl) ?_
                  refine oa_x (i := 14) (listed' := #[true, true, true, true, true, true, true, true, true, true, true, true, true, true, true, false, false, false]) rfl rfl rfl (o_buildSlice1 (v := .int .u64 (v : Nat)) Try.underlying42 sz53 z53 rfl rfl) ?_
                  rintro _ _ ⟨b48, rfl, rfl⟩
                  refine ta_one (i := 15) (by kernel_rfl) ?_
                  refine oa_x (i := 15) (listed' := #[true, true, true, true, true, true, true, true, true, true, true, true, true, true, true, true, false, false]) rfl rfl rfl (o_append1 Try.underlying42 Try.underlying42 sz53 by53 z53 rfl (by decide) (by decide) rfl rfl rfl rfl rfl (by omega)) ?_
                  rintro u49 _ rfl
                  refine ta_have (fun _ _ h => sl_have h) fun ⟨_, _, hu, _, _, _⟩ => ?_
                  have hu1 : oneC u49 = true := by rw [hu]; rfl
                  refine ta_pure (i := 16) (listed' := #[true, true, true, true, true, true, true, true, true, true, true, true, true, true, true, true, true, false]) rfl (by kernel_rfl) (by kernel_rfl) (by kernel_rfl) rfl rfl (o_indexAddrN1 (j := wi q P.seen.length) Try.underlying43 sz42 rfl rfl (by omega)) ?_
                  refine ta_one (i := 17) (by kernel_rfl) ?_
                  refine oa_u (i := 17) (listed' := #[true, true, true, true, true, true, true, true, true, true, true, true, true, true, true, true, true, true]) rfl rfl rfl (o_storeSl (i := wi q P.seen.length) sz42 rfl rfl hu1 hwlt (by repeat (first | exact foc_here | apply foc_left)) ) ?_
                  refine ta_done (by kernel_rfl) ?_
                  exact ⟨u49, rfl, rfl, rfl, rfl, by rw [hW3]; ac_rfl⟩
                · skip
                  refine oa_x (i := 14) (listed' := #[true, true, true, false, true, true, true, true, true, true, true, true, true, true, true, false, false, false]) rfl rfl rfl (o_buildSlice1 (v := .int .u64 (v : Nat)) Try.underlying42 sz53 z53 rfl rfl) ?_
                  rintro _ _ ⟨b48, rfl, rfl⟩
                  refine ta_two (i := 3) (j := 15) (by kernel_rfl) ?_ ?_
                  · skip
                    refine oa_v (i := 3) (listed' := #[true, true, true, true, true, true, true, true, true, true, true, true, true, true, true, false, false, false]) rfl rfl rfl (o_load p43 rfl (by repeat (first | exact has_here | exact has_pt | apply has_left)) rfl) ?_
                    refine ta_one (i := 15) (by kernel_rfl) ?_
                    refine oa_x (i := 15) (listed' := #[true, true, true, true, true, true, true, true, true, true, true, true, true, true, true, true, false, false]) rfl rfl rfl (o_append1 Try.underlying42 Try.underlying42 sz53 by53 z53 rfl (by decide) (by decide) rfl rfl rfl rfl rfl (by omega)) ?_
                    rintro u49 _ rfl
                    refine ta_have (fun _ _ h => sl_have h) fun ⟨_, _, hu, _, _, _⟩ => ?_
                    have hu1 : oneC u49 = true := by rw [hu]; rfl
                    refine ta_pure (i := 16) (listed' := #[true, true, true, true, true, true, true, true, true, true, true, true, true, true, true, true, true, false]) rfl (by kernel_rfl) (by kernel_rfl) (by kernel_rfl) rfl rfl (o_indexAddrN1 (j := wi q P.seen.length) Try.underlying43 sz42 rfl rfl (by omega)) ?_
                    refine ta_one (i := 17) (by kernel_rfl) ?_
                    refine oa_u (i := 17) (listed' := #[true, true, true, true, true, true, true, true, true, true, true, true, true, true, true, true, true, true]) rfl rfl rfl (o_storeSl (i := wi q P.seen.length) sz42 rfl rfl hu1 hwlt (by repeat (first | exact foc_here | apply foc_left)) ) ?_
                    refine ta_done (by kernel_rfl) ?_
                    exact ⟨u49, rfl, rfl, rfl, rfl, by rw [hW3]; ac_rfl⟩
                  · skip
                    refine oa_x (i := 15) (listed' := #[true, true, true, false, true, true, true, true, true, true, true, true, true, true, true, true, false, false]) rfl rfl rfl (o_append1 Try.underlying42 Try.underlying42 sz53 by53 z53 rfl (by decide) (by decide) rfl rfl rfl rfl rfl (by omega)) ?_
                    rintro u49 _ rfl
                    refine ta_have (fun _ _ h => sl_have h) fun ⟨_, _, hu, _, _, _⟩ => ?_
                    have hu1 : oneC u49 = true := by rw [hu]; rfl
                    refine ta_one (i := 3) (by kernel_rfl) ?_
                    refine oa_v (i := 3) (listed' := #[true, true, true, true, true, true, true, true, true, true, true, true, true, true, true, true, false, false]) rfl rfl rfl (o_load p43 rfl (by repeat (first | exact has_here | exact has_pt | apply has_left)) rfl) ?_
                    refine ta_pure (i := 16) (listed' := #[true, true, true, true, true, true, true, true, true, true, true, true, true, true, true, true, true, false]) rfl (by kernel_rfl) (by kernel_rfl) (by kernel_rfl) rfl rfl (o_indexAddrN1 (j := wi q P.seen.length) Try.underlying43 sz42 rfl rfl (by omega)) ?_
                    refine ta_one (i := 17) (by kernel_rfl) ?_
                    refine oa_u (i := 17) (listed' := #[true, true, true, true, true, true, true, true, true, true, true, true, true, true, true, true, true, true]) rfl rfl rfl (o_storeSl (i := wi q P.seen.length) sz42 rfl rfl hu1 hwlt (by repeat (first | exact foc_here | apply foc_left)) ) ?_
                    refine ta_done (by kernel_rfl) ?_
                    exact ⟨u49, rfl, rfl, rfl, rfl, by rw [hW3]; ac_rfl⟩
              · skip
                refine oa_x (i := 14) (listed' := #[true, true, true, false, true, true, true, true, true, true, true, false, true, true, true, false, false, false]) rfl rfl rfl (o_buildSlice1 (v := .int .u64 (v : Nat)) Try.underlying42 sz53 z53 rfl rfl) ?_
                rintro _ _ ⟨b48, rfl, rfl⟩
                refine ta_two (i := 3) (j := 11) (by kernel_rfl) ?_ ?_
                · skip
                  refine oa_v (i := 3) (listed' := #[true, true, true, true, true, true, true, true, true, true, true, false, true, true, true, false, false, false]) rfl rfl rfl (o_load p43 rfl (by repeat (first | exact has_here | exact has_pt | apply has_left)) rfl) ?_
                  refine ta_one (i := 11) (by kernel_rfl) ?_
                  refine oa_v (i := 11) (listed' := #[true, true, true, true, true, true, true, true, true, true, true, true, true, true, true, false, false, false]) rfl rfl rfl (o_loadSl (k := 1) (i := wi q P.seen.length) (v := hvs[wi q P.seen.length]) (xs := hvs) (Y := Sl 1 (.slice (some ⟨bh, oh, none⟩) P.seen.length ch) P.seen.length hvs) p42 rfl (by repeat (first | exact foc_here | apply foc_left)) (List.getElem?_eq_getElem hwv)) ?_
                  refine ta_one (i := 15) (by kernel_rfl) ?_
                  refine oa_x (i := 15) (listed' := #[true, true, true, true, true, true, true, true, true, true, true, true, true, true, true, true, false, false]) rfl rfl rfl (o_append1 Try.underlying42 Try.underlying42 sz53 by53 z53 rfl (by decide) (by decide) rfl rfl rfl rfl rfl (by omega)) ?_
                  rintro u49 _ rfl
                  refine ta_have (fun _ _ h => sl_have h) fun ⟨_, _, hu, _, _, _⟩ => ?_
                  have hu1 : oneC u49 = true := by rw [hu]; rfl
                  refine ta_pure (i := 16) (listed' := #[true, true, true, true, true, true, true, true, true, true, true, true, true, true, true, true, true, false]) rfl (by kernel_rfl) (by kernel_rfl) (by kernel_rfl) rfl rfl (o_indexAddrN1 (j := wi q P.seen.length) Try.underlying43 sz42 rfl rfl (by omega)) ?_
                  refine ta_one (i := 17) (by kernel_rfl) ?_
                  refine oa_u (i := 17) (listed' := #[true, true, true, true, true, true, true, true, true, true, true, true, true, true, true, true, true, true]) rfl rfl rfl (o_storeSl (i := wi q P.seen.length) sz42 rfl rfl hu1 hwlt (by repeat (first | exact foc_here | apply foc_left)) ) ?_
                  refine ta_done (by kernel_rfl) ?_
                  exact ⟨u49, rfl, rfl, rfl, rfl, by rw [hW3]; ac_rfl⟩
                · skip
                  refine oa_v (i := 11) (listed' := #[true, true, true, false, true, true, true, true, true, true, true, true, true, true, true, false, false, false]) rfl rfl rfl (o_loadSl (k := 1) (i := wi q P.seen.length) (v := hvs[wi q P.seen.length]) (xs := hvs) (Y := Sl 1 (.slice (some ⟨bh, oh, none⟩) P.seen.length ch) P.seen.length hvs) p42 rfl (by repeat (first | exact foc_here | apply foc_left)) (List.getElem?_eq_getElem hwv)) ?_
                  refine ta_two (i := 3) (j := 15) (by kernel_rfl) ?_ ?_
                  · skip
                    refine oa_v (i := 3) (listed' := #[true, true, true, true, true, true, true, true, true, true, true, true, true, true, true, false, false, false]) rfl rfl rfl (o_load p43 rfl (by repeat (first | exact has_here | exact has_pt | apply has_left)) rfl) ?_
                    refine ta_one (i := 15) (by kernel_rfl) ?_
                    refine oa_x (i := 15) (listed' := #[true, true, true, true, true, true, true, true, true, true, true, true, true, true, true, true, false, false]) rfl rfl rfl (o_append1 Try.underlying42 Try.underlying42 sz53 by53 z53 rfl (by decide) (by decide) rfl rfl rfl rfl rfl (by omega)) ?_
                    rintro u49 _ rfl
                    refine ta_have (fun _ _ h => sl_have h) fun ⟨_, _, hu, _, _, _⟩ => ?_
                    have hu1 : oneC u49 = true := by rw [hu]; rfl
                    refine ta_pure (i := 16) (listed' := #[true, true, true, true, true, true, true, true, true, true, true, true, true, true, true, true, true, false]) rfl (by kernel_rfl) (by kernel_rfl) (by kernel_rfl) rfl rfl (o_indexAddrN1 (j := wi q P.seen.length) Try.underlying43 sz42 rfl rfl (by omega)) ?_
                    refine ta_one (i := 17) (by kernel_rfl) ?_
                    refine oa_u (i := 17) (listed' := #[true, true, true, true, true, true, true, true, true, true, true, true, true, true, true, true, true, true]) rfl rfl rfl (o_storeSl (i := wi q P.seen.length) sz42 rfl rfl hu1 hwlt (by repeat (first | exact foc_here | apply foc_left)) ) ?_
                    refine ta_done (by kernel_rfl) ?_
                    exact ⟨u49, rfl, rfl, rfl, rfl, by rw [hW3]; ac_rfl⟩
                  · skip
                    refine oa_x (i := 15) (listed' := #[true, true, true, false, true, true, true, true, true, true, true, true, true, true, true, true, false, false]) rfl rfl rfl (o_append1 Try.underlying42 Try.underlying42 sz53 by53 z53 rfl (by decide) (by decide) rfl rfl rfl rfl rfl (by omega)) ?_
                    rintro u49 _ rfl
                    refine ta_have (fun _ _ h => sl_have h) fun ⟨_, _, hu, _, _, _⟩ => ?_
                    have hu1 : oneC u49 = true := by rw [hu]; rfl
                    refine ta_one (i := 3) (by kernel_rfl) ?_
                    refine oa_v (i := 3) (listed' := #[true, true, true, true, true, true, true, true, true, true, true, true, true, true, true, true, false, false]) rfl rfl rfl (o_load p43 rfl (by repeat (first | exact has_here | exact has_pt | apply has_left)) rfl) ?_
                    refine ta_pure (i := 16) (listed' := #[true, true, true, true, true, true, true, true, true, true, true, true, true, true, true, true, true, false]) rfl (by kernel_rfl) (by kernel_rfl) (by kernel_rfl) rfl rfl (o_indexAddrN1 (j := wi q P.seen.length) Try.underlying43 sz42 rfl rfl (by omega)) ?_
                    refine ta_one (i := 17) (by kernel_rfl) ?_
                    refine oa_u (i := 17) (listed' := #[true, true, true, true, true, true, true, true, true, true, true, true, true, true, true, true, true, true]) rfl rfl rfl (o_storeSl (i := wi q P.seen.length) sz42 rfl rfl hu1 hwlt (by repeat (first | exact foc_here | apply foc_left)) ) ?_
                    refine ta_done (by kernel_rfl) ?_
                    exact ⟨u49, rfl, rfl, rfl, rfl, by rw [hW3]; ac_rfl⟩
          · skip
            refine oa_v (i := 13) (listed' := #[true, true, true, false, true, true, true, true, false, true, false, false, true, true, false, false, false, false]) rfl rfl rfl (o_load p53 rfl (by repeat (first | exact has_here | exact has_pt | apply has_left)) rfl) ?_
            refine ta_three (i := 3) (j := 8) (k := 14) (by kernel_rfl) ?_ ?_ ?_
            · skip
              refine oa_v (i := 3) (listed' := #[true, true, true, true, true, true, true, true, false, true, false, false, true, true, false, false, false, false]) rfl rfl rfl (o_load p43 rfl (by repeat (first | exact has_here | exact has_pt | apply has_left)) rfl) ?_
              refine ta_two (i := 8) (j := 14) (by kernel_rfl) ?_ ?_
              · skip
                refine oa_v (i := 8) (listed' := #[true, true, true, true, true, true, true, true, true, true, false, false, true, true, false, false, false, false]) rfl rfl rfl (o_load p43 rfl (by repeat (first | exact has_here | exact has_pt | apply has_left)) rfl) ?_
                refine ta_pure (i := 10) (listed' := #[true, true, true, true, true, true, true, true, true, true, true, false, true, true, false, false, false, false]) rfl (by kernel_rfl) (by kernel_rfl) (by kernel_rfl) rfl rfl (o_indexAddrN1 (j := wi q P.seen.length) Try.underlying43 sz42 rfl rfl (by omega)) ?_
                refine ta_two (i := 11) (j := 14) (by kernel_rfl) ?_ ?_
                · skip
                  refine oa_v (i := 11) (listed' := #[true, true, true, true, true, true, true, true, true, true, true, true, true, true, false, false, false, false]) rfl rfl rfl (o_loadSl (k := 1) (i := wi q P.seen.length) (v := hvs[wi q P.seen.length]) (xs := hvs) (Y := Sl 1 (.slice (some ⟨bh, oh, none⟩) P.seen.length ch) P.seen.length hvs) p42 rfl (by repeat (first | exact foc_here | apply foc_left)) (List.getElem?_eq_getElem hwv)) ?_
                  refine ta_one (i := 14) (by kernel_rfl) ?_
                  refine oa_x (i := 14) (listed' := #[true, true, true, true, true, true, true, true, true, true, true, true, true, true, true, false, false, false]) rfl rfl rfl (o_buildSlice1 (v := .int .u64 (v : Nat)) Try.underlying42 sz53 z53 rfl rfl) ?_
                  rintro _ _ ⟨b48, rfl, rfl⟩
                  refine ta_one (i := 15) (by kernel_rfl) ?_
                  refine oa_x (i := 15) (listed' := #[true, true, true, true, true, true, true, true, true, true, true, true, true, true, true, true, false, false]) rfl rfl rfl (o_append1 Try.underlying42 Try.underlying42 sz53 by53 z53 rfl (by decide) (by decide) rfl rfl rfl rfl rfl (by omega)) ?_
                  rintro u49 _ rfl
                  refine ta_have (fun _ _ h => sl_have h) fun ⟨_, _, hu, _, _, _⟩ => ?_
                  have hu1 : oneC u49 = true := by rw [hu]; rfl
                  refine ta_pure (i := 16) (listed' := #[true, true, true, true, true, true, true, true, true, true, true, true, true, true, true, true, true, false]) rfl (by kernel_rfl) (by kernel_rfl) (by kernel_rfl) rfl rfl (o_indexAddrN1 (j := wi q P.seen.length) Try.underlying43 sz42 rfl rfl (by omega)) ?_
                  refine ta_one (i := 17) (by kernel_rfl) ?_
                  refine oa_u (i := 17) (listed' := #[true, true, true, true, true, true, true, true, true, true, true, true, true, true, true, true, true, true]) rfl rfl rfl (o_storeSl (i := wi q P.seen.length) sz42 rfl rfl hu1 hwlt (by repeat (first | exact foc_here | apply foc_left)) ) ?_
                  refine ta_done (by kernel_rfl) ?_
                  exact ⟨u49, rfl, rfl, rfl, rfl, by rw [hW3]; ac_rfl⟩
                · skip
                  refine oa_x (i := 14) (listed' := #[true, true, true, true, true, true, true, true, true, true, true, false, true, true, true, false, false, false]) rfl rfl rfl (o_buildSlice1 (v := .int .u64 (v : Nat)) Try.underlying42 sz53 z53 rfl rfl) ?_
                  rintro _ _ ⟨b48, rfl, rfl⟩
                  refine ta_one (i := 11) (by kernel_rfl) ?_
                  refine oa_v (i := 11) (listed' := #[true, true, true, true, true, true, true, true, true, true, true, true, true, true, true, false, false, false]) rfl rfl rfl (o_loadSl (k := 1) (i := wi q P.seen.length) (v := hvs[wi q P.seen.length]) (xs := hvs) (Y := Sl 1 (.slice (some ⟨bh, oh, none⟩) P.seen.length ch) P.seen.length hvs) p42 rfl (by repeat (first | exact foc_here | apply foc_left)) (List.getElem?_eq_getElem hwv)) ?_
                  refine ta_one (i := 15) (by kernel_rfl) ?_
                  refine oa_x (i := 15) (listed' := #[true, true, true, true, true, true, true, true, true, true, true, true, true, true, true, true, false, false]) rfl rfl rfl (o_append1 Try.underlying42 Try.underlying42 sz53 by53 z53 rfl (by decide) (by decide) rfl rfl rfl rfl rfl (by omega)) ?_
                  rintro u49 _ rfl
                  refine ta_have (fun _ _ h => sl_have h) fun ⟨_, _, hu, _, _, _⟩ => ?_
                  have hu1 : oneC u49 = true := by rw [hu]; rfl
                  refine ta_pure (i := 16) (listed' := #[true, true, true, true, true, true, true, true, true, true, true, true, true, true, true, true, true, false]) rfl (by kernel_rfl) (by kernel_rfl) (by kernel_rfl) rfl rfl (o_indexAddrN1 (j := wi q P.seen.length) Try.underlying43 sz42 rfl rfl (by omega)) ?_
                  refine ta_one (i := 17) (by kernel_rfl) ?_
                  refine oa_u (i := 17) (listed' := #[true, true, true, true, true, true, true, true, true, true, true, true, true, true, true, true, true, true]) rfl rfl rfl (o_storeSl (i := wi q P.seen.length) sz42 rfl rfl hu1 hwlt (by repeat (first | exact foc_here | apply foc_left)) ) ?_
                  refine ta_done (by kernel_rfl) ?_
                  exact ⟨u49, rfl, rfl, rfl, rfl, by rw [hW3]; ac_rfl⟩
              · skip
                refine oa_x (i := 14) (listed' := #[true, true, true, true, true, true, true, true, false, true, false, false, true, true, true, false, false, false]) rfl rfl rfl (o_buildSlice1 (v := .int .u64 (v : Nat)) Try.underlying42 sz53 z53 rfl rfl) ?_
                rintro _ _ ⟨b48, rfl, rfl⟩
                refine ta_one (i := 8) (by kernel_rfl) ?_
                refine oa_v (i := 8) (listed' := #[true, true, true, true, true, true, true, true, true, true, false, false, true, true, true, false, false, false]) rfl rfl rfl (o_load p43 rfl (by repeat (first | exact has_here | exact has_pt | apply has_left)) rfl) ?_
                refine ta_pure (i := 10) (listed' := #[true, true, true, true, true, true, true, true, true, true, true, false, true, true, true, false, false, false]) rfl (by kernel_rfl) (by kernel_rfl) (by kernel_rfl) rfl rfl (o_indexAddrN1 (j := wi q P.seen.length) Try.underlying43 sz42 rfl rfl (by omega)) ?_
                refine ta_one (i := 11) (by kernel_rfl) ?_
                refine oa_v (i := 11) (listed' := #[true, true, true, true, true, true, true, true, true, true, true, true, true, true, true, false, false, false]) rfl rfl rfl (o_loadSl (k := 1) (i := wi q P.seen.length) (v := hvs[wi q P.seen.length]) (xs := hvs) (Y := Sl 1 (.slice (some ⟨bh, oh, none⟩) P.seen.length ch) P.seen.length hvs) p42 rfl (by repeat (first | exact foc_here | apply foc_left)) (List.getElem?_eq_getElem hwv)) ?_
                refine ta_one (i := 15) (by kernel_rfl) ?_
                refine oa_x (i := 15) (listed' := #[true, true, true, true, true, true, true, true, true, true, true, true, true, true, true, true, false, false]) rfl rfl rfl (o_append1 Try.underlying42 Try.underlying42 sz53 by53 z53 rfl (by decide) (by decide) rfl rfl rfl rfl rfl (by omega)) ?_
                rintro u49 _ rfl
                refine ta_have (fun _ _ h => sl_have h) fun ⟨_, _, hu, _, _, _⟩ => ?_
                have hu1 : oneC u49 = true := by rw [hu]; rfl
                refine ta_pure (i := 16) (listed' := #[true, true, true, true, true, true, true, true, true, true, true, true, true, true, true, true, true, false]) rfl (by kernel_rfl) (by kernel_rfl) (by kernel_rfl) rfl rfl (o_indexAddrN1 (j := wi q P.seen.length) Try.underlying43 sz42 rfl rfl (by omega)) ?_
                refine ta_one (i := 17) (by kernel_rfl) ?_
                refine oa_u (i := 17) (listed' := #[true, true, true, true, true, true, true, true, true, true, true, true, true, true, true, true, true, true]) rfl rfl rfl (o_storeSl (i := wi q P.seen.length) sz42 rfl rfl hu1 hwlt (by repeat (first | exact foc_here | apply foc_left)) ) ?_
                refine ta_done (by kernel_rfl) ?_
                exact ⟨u49, rfl, rfl, rfl, rfl, by rw [hW3]; ac_rfl⟩
            · skip
              refine oa_v (i := 8) (listed' := #[true, true, true, false, true, true, true, true, true, true, false, false, true, true, false, false, false, false]) rfl rfl rfl (o_load p43 rfl (by repeat (first | exact has_here | exact has_pt | apply has_left)) rfl) ?_
              refine ta_pure (i := 10) (listed' := #[true, true, true, false, true, true, true, true, true, true, true, false, true, true, false, false, false, false]) rfl (by kernel_rfl) (by kernel_rfl) (by kernel_rfl) rfl rfl (o_indexAddrN1 (j := wi q P.seen.length) Try.underlying43 sz42 rfl rfl (by omega)) ?_
              refine ta_three (i := 3) (j := 11) (k := 14) (by kernel_rfl) ?_ ?_ ?_
              · skip
                refine oa_v (i := 3) (listed' := #[true, true, true, true, true, true, true, true, true, true, true, false, true, true, false, false, false, false]) rfl rfl rfl (o_load p43 rfl (by repeat (first | exact has_here | exact has_pt | apply has_left)) rfl) ?_
                refine ta_two (i := 11) (j := 14) (by kernel_rfl) ?_ ?_
                · skip
                  refine oa_v (i := 11) (listed' := #[true, true, true, true, true, true, true, true, true, true, true, true, true, true, false, false, false, false]) rfl rfl rfl (o_loadSl (k := 1) (i := wi q P.seen.length) (v := hvs[wi q P.seen.length]) (xs := hvs) (Y := Sl 1 (.slice (some ⟨bh, oh, none⟩) P.seen.length ch) P.seen.length hvs) p42 rfl (by repeat (first | exact foc_here | apply foc_left)) (List.getElem?_eq_getElem hwv)) ?_
                  refine ta_one (i := 14) (by kernel_rfl) ?_
                  refine oa_x (i := 14) (listed' := #[true, true, true, true, true, true, true, true, true, true, true, true, true, true, true, false, false, false]) rfl rfl rfl (o_buildSlice1 (v := .int .u64 (v : Nat)) Try.underlying42 sz53 z53 rfl rfl) ?_
                  rintro _ _ ⟨b48, rfl, rfl⟩
                  refine ta_one (i := 15) (by kernel_rfl) ?_
                  refine oa_x (i := 15) (listed' := #[true, true, true, true, true, true, true, true, true, true, true, true, true, true, true, true, false, false]) rfl rfl rfl (o_append1 Try.underlying42 Try.underlying42 sz53 by53 z53 rfl (by decide) (by decide) rfl rfl rfl rfl rfl (by omega)) ?_
                  rintro u49 _ rfl
                  refine ta_have (fun _ _ h => sl_have h) fun ⟨_, _, hu, _, _, _⟩ => ?_
                  have hu1 : oneC u49 = true := by rw [hu]; rfl
                  refine ta_pure (i := 16) (listed' := #[true, true, true, true, true, true, true, true, true, true, true, true, true, true, true, true, true, false]) rfl (by kernel_rfl) (by kernel_rfl) (by kernel_rfl) rfl rfl (o_indexAddrN1 (j := wi q P.seen.length) Try.underlying43 sz42 rfl rfl (by omega)) ?_
                  refine ta_one (i := 17) (by kernel_rfl) ?_
                  refine oa_u (i := 17) (listed' := #[true, true, true, true, true, true, true, true, true, true, true, true, true, true, true, true, true, true]) rfl rfl rfl (o_storeSl (i := wi q P.seen.length) sz42 rfl rfl hu1 hwlt (by repeat (first | exact foc_here | apply foc_left)) ) ?_
                  refine ta_done (by kernel_rfl) ?_
                  exact ⟨u49, rfl, rfl, rfl, rfl, by rw [hW3]; ac_rfl⟩
                · skip
                  refine oa_x (i := 14) (listed' := #[true, true, true, true, true, true, true, true, true, true, true, false, true, true, true, false, false, false]) rfl rfl rfl (o_buildSlice1 (v := .int .u64 (v : Nat)) Try.underlying42 sz53 z53 rfl rfl) ?_
                  rintro _ _ ⟨b48, rfl, rfl⟩
                  refine ta_one (i := 11) (by kernel_rfl) ?_
                  refine oa_v (i := 11) (listed' := #[true, true, true, true, true, true, true, true, true, true, true, true, true, true, true, false, false, false]) rfl rfl rfl (o_loadSl (k := 1) (i := wi q P.seen.length) (v := hvs[wi q P.seen.length]) (xs := hvs) (Y := Sl 1 (.slice (some ⟨bh, oh, none⟩) P.seen.length ch) P.seen.length hvs) p42 rfl (by repeat (first | exact foc_here | apply foc_left)) (List.getElem?_eq_getElem hwv)) ?_
                  refine ta_one (i := 15) (by kernel_rfl) ?_
                  refine oa_x (i := 15) (listed' := #[true, true, true, true, true, true, true, true, true, true, true, true, true, true, true, true, false, false]) rfl rfl rfl (o_append1 Try.underlying42 Try.underlying42 sz53 by53 z53 rfl (by decide) (by decide) rfl rfl rfl rfl rfl (by omega)) ?_
                  rintro u49 _ rfl
                  refine ta_have (fun _ _ h => sl_have h) fun ⟨_, _, hu, _, _, _⟩ => ?_
                  have hu1 : oneC u49 = true := by rw [hu]; rfl
                  refine ta_pure (i := 16) (listed' := #[true, true, true, true, true, true, true, true, true, true, true, true, true, true, true, true, true, false]) rfl (by kernel_rfl) (by kernel_rfl) (by kernel_rfl) rfl rfl (o_indexAddrN1 (j := wi q P.seen.length) Try.underlying43 sz42 rfl rfl (by omega)) ?_
                  refine ta_one (i := 17) (by kernel_rfl) ?_
                  refine oa_u (i := 17) (listed' := #[true, true, true, true, true, true, true, true, true, true, true, true, true, true, true, true, true, true]) rfl rfl rfl (o_storeSl (i := wi q P.seen.length) sz42 rfl rfl hu1 hwlt (by repeat (first | exact foc_here | apply foc_left)) ) ?_
                  refine ta_done (by kernel_rfl) ?_
                  exact ⟨u49, rfl, rfl, rfl, rfl, by rw [hW3]; ac_rfl⟩
              · skip
                refine oa_v (i := 11) (listed' := #[true, true, true, false, true, true, true, true, true, true, true, true, true, true, false, false, false, false]) rfl rfl rfl (o_loadSl (k := 1) (i := wi q P.seen.length) (v := hvs[wi q P.seen.length]) (xs := hvs) (Y := Sl 1 (.slice (some ⟨bh, oh, none⟩) P.seen.length ch) P.seen.length hvs) p42 rfl (by repeat (first | exact foc_here | apply foc_left)) (List.getElem?_eq_getElem hwv)) ?_
                refine ta_two (i := 3) (j := 14) (by kernel_rfl) ?_ ?_
                · skip
                  refine oa_v (i := 3) (listed' := #[true, true, true, true, true, true, true, true, true, true, true, true, true, true, false, false, false, false]) rfl rfl rfl (o_load p43 rfl (by repeat (first | exact has_here | exact has_pt | apply has_left)) rfl) ?_
                  refine ta_one (i := 14) (by kernel_rfl) ?_
                  refine oa_x (i := 14) (listed' := #[true, true, true, true, true, true, true, true, true, true, true, true, true, true, true, false, false, false]) rfl rfl rfl (o_buildSlice1 (v := .int .u64 (v : Nat)) Try.underlying42 sz53 z53 rfl rfl) ?_
                  rintro _ _ ⟨b48, rfl, rfl⟩
                  refine ta_one (i := 15) (by kernel_rfl) ?_
                  refine oa_x (i := 15) (listed' := #[true, true, true, true, true, true, true, true, true, true, true, true, true, true, true, true, false, false]) rfl rfl rfl (o_append1 Try.underlying42 Try.underlying42 sz53 by53 z53 rfl (by decide) (by decide) rfl rfl rfl rfl rfl (by omega)) ?_
                  rintro u49 _ rfl
                  refine ta_have (fun _ _ h => sl_have h) fun ⟨_, _, hu, _, _, _⟩ => ?_
                  have hu1 : oneC u49 = true := by rw [hu]; rfl
                  refine ta_pure (i := 16) (listed' := #[true, true, true, true, true, true, true, true, true, true, true, true, true, true, true, true, true, false]) rfl (by kernel_rfl) (by kernel_rfl) (by kernel_rfl) rfl rfl (o_indexAddrN1 (j := wi q P.seen.length) Try.underlying43 sz42 rfl rfl (by omega)) ?_
                  refine ta_one (i := 17) (by kernel_rfl) ?_
                  refine oa_u (i := 17) (listed' := #[true, true, true, true, true, true, true, true, true, true, true, true, true, true, true, true, true, true]) rfl rfl rfl (o_storeSl (i := wi q P.seen.length) sz42 rfl rfl hu1 hwlt (by repeat (first | exact foc_here | apply foc_left)) ) ?_
                  refine ta_done (by kernel_rfl) ?_
                  exact ⟨u49, rfl, rfl, rfl, rfl, by rw [hW3]; ac_rfl⟩
                · skip
                  refine oa_x (i := 14) (listed' := #[true, true, true, false, true, true, true, true, true, true, true, true, true, true, true, false, false, false]) rfl rfl rfl (o_buildSlice1 (v := .int .u64 (v : Nat)) Try.underlying42 sz53 z53 rfl rfl) ?_
                  rintro _ _ ⟨b48, rfl, rfl⟩
                  refine ta_two (i := 3) (j := 15) (by kernel_rfl) ?_ ?_
                  · skip
                    refine oa_v (i := 3) (listed' := #[true, true, true, true, true, true, true, true, true, true, true, true, true, true, true, false, false, false]) rfl rfl rfl (o_load p43 rfl (by repeat (first | exact has_here | exact has_pt | apply has_left)) rfl) ?_
                    refine ta_one (i := 15) (by kernel_rfl) ?_
                    refine oa_x (i := 15) (listed' := #[true, true, true, true, true, true, true, true, true, true, true, true, true, true, true, true, false, false]) rfl rfl rfl (o_append1 Try.underlying42 Try.underlying42 sz53 by53 z53 rfl (by decide) (by decide) rfl rfl rfl rfl rfl (by omega)) ?_
                    rintro u49 _ rfl
                    refine ta_have (fun _ _ h => sl_have h) fun ⟨_, _, hu, _, _, _⟩ => ?_
                    have hu1 : oneC u49 = true := by rw [hu]; rfl
                    refine ta_pure (i := 16) (listed' := #[true, true, true, true, true, true, true, true, true, true, true, true, true, true, true, true, true, false]) rfl (by kernel_rfl) (by kernel_rfl) (by kernel_rfl) rfl rfl (o_indexAddrN1 (j := wi q P.seen.length) Try.underlying43 sz42 rfl rfl (by omega)) ?_
                    refine ta_one (i := 17) (by kernel_rfl) ?_
                    refine oa_u (i := 17) (listed' := #[true, true, true, true, true, true, true, true, true, true, true, true, true, true, true, true, true, true]) rfl rfl rfl (o_storeSl (i := wi q P.seen.length) sz42 rfl rfl hu1 hwlt (by repeat (first | exact foc_here | apply foc_left)) ) ?_
                    refine ta_done (by kernel_rfl) ?_
                    exact ⟨u49, rfl, rfl, rfl, rfl, by rw [hW3]; ac_rfl⟩
                  · skip
                    refine oa_x (i := 15) (listed' := #[true, true, true, false, true, true, true, true, true, true, true, true, true, true, true, true, false, false]) rfl rfl rfl (o_append1 Try.underlying42 Try.underlying42 sz53 by53 z53 rfl (by decide) (by decide) rfl rfl rfl rfl rfl (by omega)) ?_
                    rintro u49 _ rfl
                    refine ta_have (fun _ _ h => sl_have h) fun ⟨_, _, hu, _, _, _⟩ => ?_
                    have hu1 : oneC u49 = true := by rw [hu]; rfl
                    refine ta_one (i := 3) (by kernel_rfl) ?_
                    refine oa_v (i := 3) (listed' := #[true, true, true, true, true, true, true, true, true, true, true, true, true, true, true, true, false, false]) rfl rfl rfl (o_load p43 rfl (by repeat (first | exact has_here | exact has_pt | apply has_left)) rfl) ?_
                    refine ta_pure (i := 16) (listed' := #[true, true, true, true, true, true, true, true, true, true, true, true, true, true, true, true, true, false]) rfl (by kernel_rfl) (by kernel_rfl) (by kernel_rfl) rfl rfl (o_indexAddrN1 (j := wi q P.seen.length) Try.underlying43 sz42 rfl rfl (by omega)) ?_
                    refine ta_one (i := 17) (by kernel_rfl) ?_
                    refine oa_u (i := 17) (listed' := #[true, true, true, true, true, true, true, true, true, true, true, true, true, true, true, true, true, true]) rfl rfl rfl (o_storeSl (i := wi q P.seen.length) sz42 rfl rfl hu1 hwlt (by repeat (first | exact foc_here | apply foc_left)) ) ?_
                    refine ta_done (by kernel_rfl) ?_
                    exact ⟨u49, rfl, rfl, rfl, rfl, by rw [hW3]; ac_rfl⟩
              · skip
                refine oa_x (i := 14) (listed' := #[true, true, true, false, true, true, true, true, true, true, true, false, true, true, true, false, false, false]) rfl rfl rfl (o_buildSlice1 (v := .int .u64 (v : Nat)) Try.underlying42 sz53 z53 rfl rfl) ?_
                rintro _ _ ⟨b48, rfl, rfl⟩
                refine ta_two (i := 3) (j := 11) (by kernel_rfl) ?_ ?_
                · skip
                  refine oa_v (i := 3) (listed' := #[true, true, true, true, true, true, true, true, true, true, true, false, true, true, true, false, false, false]) rfl rfl rfl (o_load p43 rfl (by repeat (first | exact has_here | exact has_pt | apply has_left)) rfl) ?_
                  refine ta_one (i := 11) (by kernel_rfl) ?_
                  refine oa_v (i := 11) (listed' := #[true, true, true, true, true, true, true, true, true, true, true, true, true, true, true, false, false, false]) rfl rfl rfl (o_loadSl (k := 1) (i := wi q P.seen.length) (v := hvs[wi q P.seen.length]) (xs := hvs) (Y := Sl 1 (.slice (some ⟨bh, oh, none⟩) P.seen.length ch) P.seen.length hvs) p42 rfl (by repeat (first | exact foc_here | apply foc_left)) (List.getElem?_eq_getElem hwv)) ?_
                  refine ta_one (i := 15) (by kernel_rfl) ?_
                  refine oa_x (i := 15) (listed' := #[true, true, true, true, true, true, true, true, true, true, true, true, true, true, true, true, false, false]) rfl rfl rfl (o_append1 Try.underlying42 Try.underlying42 sz53 by53 z53 rfl (by decide) (by decide) rfl rfl rfl rfl rfl (by omega)) ?_
                  rintro u49 _ rfl
                  refine ta_have (fun _ _ h => sl_have h) fun ⟨_, _, hu, _, _, _⟩ => ?_
                  have hu1 : oneC u49 = true := by rw [hu]; rfl
                  refine ta_pure (i := 16) (listed' := #[true, true, true, true, true, true, true, true, true, true, true, true, true, true, true, true, true, false]) rfl (by kernel_rfl) (by kernel_rfl) (by kernel_rfl) rfl rfl (o_indexAddrN1 (j := wi q P.seen.length) Try.underlying43 sz42 rfl rfl (by omega)) ?_
                  refine ta_one (i := 17) (by kernel_rfl) ?_
                  refine oa_u (i := 17) (listed' := #[true, true, true, true, true, true, true, true, true, true, true, true, true, true, true, true, true, true]) rfl rfl rfl (o_storeSl (i := wi q P.seen.length) sz42 rfl rfl hu1 hwlt (by repeat (first | exact foc_here | apply foc_left)) ) ?_
                  refine ta_done (by kernel_rfl) ?_
                  exact ⟨u49, rfl, rfl, rfl, rfl, by rw [hW3]; ac_rfl⟩
                · skip
                  refine oa_v (i := 11) (listed' := #[true, true, true, false, true, true, true, true, true, true, true, true, true, true, true, false, false, false]) rfl rfl rfl (o_loadSl (k := 1) (i := wi q P.seen.length) (v := hvs[wi q P.seen.length]) (xs := hvs) (Y := Sl 1 (.slice (some ⟨bh, oh, none⟩) P.seen.length ch) P.seen.length hvs) p42 rfl (by repeat (first | exact foc_here | apply foc_left)) (List.getElem?_eq_getElem hwv)) ?_
                  refine ta_two (i := 3) (j := 15) (by kernel_rfl) ?_ ?_
                  · skip
                    refine oa_v (i := 3) (listed' := #[true, true, true, true, true, true, true, true, true, true, true, true, true, true, true, false, false, false]) rfl rfl rfl (o_load p43 rfl (by repeat (first | exact has_here | exact has_pt | apply has_left)) rfl) ?_
                    refine ta_one (i := 15) (by kernel_rfl) ?_
                    refine oa_x (i := 15) (listed' := #[true, true, true, true, true, true, true, true, true, true, true, true, true, true, true, true, false, false]) rfl rfl rfl (o_append1 Try.underlying42 Try.underlying42 sz53 by53 z53 rfl (by decide) (by decide) rfl rfl rfl rfl rfl (by omega)) ?_
                    rintro u49 _ rfl
                    refine ta_have (fun _ _ h => sl_have h) fun ⟨_, _, hu, _, _, _⟩ => ?_
                    have hu1 : oneC u49 = true := by rw [hu]; rfl
                    refine ta_pure (i := 16) (listed' := #[true, true, true, true, true, true, true, true, true, true, true, true, true, true, true, true, true, false]) rfl (by kernel_rfl) (by kernel_rfl) (by kernel_rfl) rfl rfl (o_indexAddrN1 (j := wi q P.seen.length) Try.underlying43 sz42 rfl rfl (by omega)) ?_
                    refine ta_one (i := 17) (by kernel_rfl) ?_
                    refine oa_u (i := 17) (listed' := #[true, true, true, true, true, true, true, true, true, true, true, true, true, true, true, true, true, true]) rfl rfl rfl (o_storeSl (i := wi q P.seen.length) sz42 rfl rfl hu1 hwlt (by repeat (first | exact foc_here | apply foc_left)) ) ?_
                    refine ta_done (by kernel_rfl) ?_
                    exact ⟨u49, rfl, rfl, rfl, rfl, by rw [hW3]; ac_rfl⟩
                  · skip
                    refine oa_x (i := 15) (listed' := #[true, true, true, false, true, true, true, true, true, true, true, true, true, true, true, true, false, false]) rfl rfl rfl (o_append1 Try.underlying42 Try.underlying42 sz53 by53 z53 rfl (by decide) (by decide) rfl rfl rfl rfl rfl (by omega)) ?_
                    rintro u49 _ rfl
                    refine ta_have (fun _ _ h => sl_have h) fun ⟨_, _, hu, _, _, _⟩ => ?_
                    have hu1 : oneC u49 = true := by rw [hu]; rfl
                    refine ta_one (i := 3) (by kernel_rfl) ?_
                    refine oa_v (i := 3) (listed' := #[true, true, true, true, true, true, true, true, true, true, true, true, true, true, true, true, false, false]) rfl rfl rfl (o_load p43 rfl (by repeat (first | exact has_here | exact has_pt | apply has_left)) rfl) ?_
                    refine ta_pure (i := 16) (listed' := #[true, true, true, true, true, true, true, true, true, true, true, true, true, true, true, true, true, false]) rfl (by kernel_rfl) (by kernel_rfl) (by kernel_rfl) rfl rfl (o_indexAddrN1 (j := wi q P.seen.length) Try.underlying43 sz42 rfl rfl (by omega)) ?_
                    refine ta_one (i := 17) (by kernel_rfl) ?_
                    refine oa_u (i := 17) (listed' := #[true, true, true, true, true, true, true, true, true, true, true, true, true, true, true, true, true, true]) rfl rfl rfl (o_storeSl (i := wi q P.seen.length) sz42 rfl rfl hu1 hwlt (by repeat (first | exact foc_here | apply foc_left)) ) ?_
                    refine ta_done (by kernel_rfl) ?_
                    exact ⟨u49, rfl, rfl, rfl, rfl, by rw [hW3]; ac_rfl⟩
            · skip
              refine oa_x (i := 14) (listed' := #[true, true, true, false, true, true, true, true, false, true, false, false, true, true, true, false, false, false]) rfl rfl rfl (o_buildSlice1 (v := .int .u64 (v : Nat)) Try.underlying42 sz53 z53 rfl rfl) ?_
              rintro _ _ ⟨b48, rfl, rfl⟩
              refine ta_two (i := 3) (j := 8) (by kernel_rfl) ?_ ?_
              · skip
                refine oa_v (i := 3) (listed' := #[true, true, true, true, true, true, true, true, false, true, false, false, true, true, true, false, false, false]) rfl rfl rfl (o_load p43 rfl (by repeat (first | exact has_here | exact has_pt | apply has_left)) rfl) ?_
                refine ta_one (i := 8) (by kernel_rfl) ?_
                refine oa_v (i := 8) (listed' := #[true, true, true, true, true, true, true, true, true, true, false, false, true, true, true, false, false, false]) rfl rfl rfl (o_load p43 rfl (by repeat (first | exact has_here | exact has_pt | apply has_left)) rfl) ?_
                refine ta_pure (i := 10) (listed' := #[true, true, true, true, true, true, true, true, true, true, true, false, true, true, true, false, false, false]) rfl (by kernel_rfl) (by kernel_rfl) (by kernel_rfl) rfl rfl (o_indexAddrN1 (j := wi q P.seen.length) Try.underlying43 sz42 rfl rfl (by omega)) ?_
                refine ta_one (i := 11) (by kernel_rfl) ?_
                refine oa_v (i := 11) (listed' := #[true, true, true, true, true, true, true, true, true, true, true, true, true, true, true, false, false, false]) rfl rfl rfl (o_loadSl (k := 1) (i := wi q P.seen.length) (v := hvs[wi q P.seen.length]) (xs := hvs) (Y := Sl 1 (.slice (some ⟨bh, oh, none⟩) P.seen.length ch) P.seen.length hvs) p42 rfl (by repeat (first | exact foc_here | apply foc_left)) (List.getElem?_eq_getElem hwv)) ?_
                refine ta_one (i := 15) (by kernel_rfl) ?_
                refine oa_x (i := 15) (listed' := #[true, true, true, true, true, true, true, true, true, true, true, true, true, true, true, true, false, false]) rfl rfl rfl (o_append1 Try.underlying42 Try.underlying42 sz53 by53 z53 rfl (by decide) (by decide) rfl rfl rfl rfl rfl (by omega)) ?_
                rintro u49 _ rfl
                refine ta_have (fun _ _ h => sl_have h) fun ⟨_, _, hu, _, _, _⟩ => ?_
                have hu1 : oneC u49 = true := by rw [hu]; rfl
                refine ta_pure (i := 16) (listed' := #[true, true, true, true, true, true, true, true, true, true, true, true, true, true, true, true, true, false]) rfl (by kernel_rfl) (by kernel_rfl) (by kernel_rfl) rfl rfl (o_indexAddrN1 (j := wi q P.seen.length) Try.underlying43 sz42 rfl rfl (by omega)) ?_
                refine ta_one (i := 17) (by kernel_rfl) ?_
                refine oa_u (i := 17) (listed' := #[true, true, true, true, true, true, true, true, true, true, true, true, true, true, true, true, true, true]) rfl rfl rfl (o_storeSl (i := wi q P.seen.length) sz42 rfl rfl hu1 hwlt (by repeat (first | exact foc_here | apply foc_left)) ) ?_
                refine ta_done (by kernel_rfl) ?_
                exact ⟨u49, rfl, rfl, rfl, rfl, by rw [hW3]; ac_rfl⟩
              · skip
                refine oa_v (i := 8) (listed' := #[true, true, true, false, true, true, true, true, true, true, false, false, true, true, true, false, false, false]) rfl rfl rfl (o_load p43 rfl (by repeat (first | exact has_here | exact has_pt | apply has_left)) rfl) ?_
                refine ta_pure (i := 10) (listed' := #[true, true, true, false, true, true, true, true, true, true, true, false, true, true, true, false, false, false]) rfl (by kernel_rfl) (by kernel_rfl) (by kernel_rfl) rfl rfl (o_indexAddrN1 (j := wi q P.seen.length) Try.underlying43 sz42 rfl rfl (by omega)) ?_
                refine ta_two (i := 3) (j := 11) (by kernel_rfl) ?_ ?_
                · skip
                  refine oa_v (i := 3) (listed' := #[true, true, true, true, true, true, true, true, true, true, true, false, true, true, true, false, false, false]) rfl rfl rfl (o_load p43 rfl (by repeat (first | exact has_here | exact has_pt | apply has_left)) rfl) ?_
                  refine ta_one (i := 11) (by kernel_rfl) ?_
                  refine oa_v (i := 11) (listed' := #[true, true, true, true, true, true, true, true, true, true, true, true, true, true, true, false, false, false]) rfl rfl rfl (o_loadSl (k := 1) (i := wi q P.seen.length) (v := hvs[wi q P.seen.length]) (xs := hvs) (Y := Sl 1 (.slice (some ⟨bh, oh, none⟩) P.seen.length ch) P.seen.length hvs) p42 rfl (by repeat (first | exact foc_here | apply foc_left)) (List.getElem?_eq_getElem hwv)) ?_
                  refine ta_one (i := 15) (by kernel_rfl) ?_
                  refine oa_x (i := 15) (listed' := #[true, true, true, true, true, true, true, true, true, true, true, true, true, true, true, true, false, false]) rfl rfl rfl (o_append1 Try.underlying42 Try.underlying42 sz53 by53 z53 rfl (by decide) (by decide) rfl rfl rfl rfl rfl (by omega)) ?_
                  rintro u49 _ rfl
                  refine ta_have (fun _ _ h => sl_have h) fun ⟨_, _, hu, _, _, _⟩ => ?_
                  have hu1 : oneC u49 = true := by rw [hu]; rfl
                  refine ta_pure (i := 16) (listed' := #[true, true, true, true, true, true, true, true, true, true, true, true, true, true, true, true, true, false]) rfl (by kernel_rfl) (by kernel_rfl) (by kernel_rfl) rfl rfl (o_indexAddrN1 (j := wi q P.seen.length) Try.underlying43 sz42 rfl rfl (by omega)) ?_
                  refine ta_one (i := 17) (by kernel_rfl) ?_
                  refine oa_u (i := 17) (listed' := #[true, true, true, true, true, true, true, true, true, true, true, true, true, true, true, true, true, true]) rfl rfl rfl (o_storeSl (i := wi q P.seen.length) sz42 rfl rfl hu1 hwlt (by repeat (first | exact foc_here | apply foc_left)) ) ?_
                  refine ta_done (by kernel_rfl) ?_
                  exact ⟨u49, rfl, rfl, rfl, rfl, by rw [hW3]; ac_rfl⟩
                · skip
                  refine oa_v (i := 11) (listed' := #[true, true, true, false, true, true, true, true, true, true, true, true, true, true, true, false, false, false]) rfl rfl rfl (o_loadSl (k := 1) (i := wi q P.seen.length) (v := hvs[wi q P.seen.length]) (xs := hvs) (Y := Sl 1 (.slice (some ⟨bh, oh, none⟩) P.seen.length ch) P.seen.length hvs) p42 rfl (by repeat (first | exact foc_here | apply foc_left)) (List.getElem?_eq_getElem hwv)) ?_
                  refine ta_two (i := 3) (j := 15) (by kernel_rfl) ?_ ?_
                  · skip
                    refine oa_v (i := 3) (listed' := #[true, true, true, true, true, true, true, true, true, true, true, true, true, true, true, false, false, false]) rfl rfl rfl (o_load p43 rfl (by repeat (first | exact has_here | exact has_pt | apply has_left)) rfl) ?_
                    refine ta_one (i := 15) (by kernel_rfl) ?_
                    refine oa_x (i := 15) (listed' := #[true, true, true, true, true, true, true, true, true, true, true, true, true, true, true, true, false, false]) rfl rfl rfl (o_append1 Try.underlying42 Try.underlying42 sz53 by53 z53 rfl (by decide) (by decide) rfl rfl rfl rfl rfl (by omega)) ?_
                    rintro u49 _ rfl
                    refine ta_have (fun _ _ h => sl_have h) fun ⟨_, _, hu, _, _, _⟩ => ?_
                    have hu1 : oneC u49 = true := by rw [hu]; rfl
                    refine ta_pure (i := 16) (listed' := #[true, true, true, true, true, true, true, true, true, true, true, true, true, true, true, true, true, false]) rfl (by kernel_rfl) (by kernel_rfl) (by kernel_rfl) rfl rfl (o_indexAddrN1 (j := wi q P.seen.length) Try.underlying43 sz42 rfl rfl (by omega)) ?_
                    refine ta_one (i := 17) (by kernel_rfl) ?_
                    refine oa_u (i := 17) (listed' := #[true, true, true, true, true, true, true, true, true, true, true, true, true, true, true, true, true, true]) rfl rfl rfl (o_storeSl (i := wi q P.seen.length) sz42 rfl rfl hu1 hwlt (by repeat (first | exact foc_here | apply foc_left)) ) ?_
                    refine ta_done (by kernel_rfl) ?_
                    exact ⟨u49, rfl, rfl, rfl, rfl, by rw [hW3]; ac_rfl⟩
                  · skip
                    refine oa_x (i := 15) (listed' := #[true, true, true, false, true, true, true, true, true, true, true, true, true, true, true, true, false, false]) rfl rfl rfl (o_append1 Try.underlying42 Try.underlying42 sz53 by53 z53 rfl (by decide) (by decide) rfl rfl rfl rfl rfl (by omega)) ?_
                    rintro u49 _ rfl
                    refine ta_have (fun _ _ h => sl_have h) fun ⟨_, _, hu, _, _, _⟩ => ?_
                    have hu1 : oneC u49 = true := by rw [hu]; rfl
                    refine ta_one (i := 3) (by kernel_rfl) ?_
                    refine oa_v (i := 3) (listed' := #[true, true, true, true, true, true, true, true, true, true, true, true, true, true, true, true, false, false]) rfl rfl rfl (o_load p43 rfl (by repeat (first | exact has_here | exact has_pt | apply has_left)) rfl) ?_
                    refine ta_pure (i := 16) (listed' := #[true, true, true, true, true, true, true, true, true, true, true, true, true, true, true, true, true, false]) rfl (by kernel_rfl) (by kernel_rfl) (by kernel_rfl) rfl rfl (o_indexAddrN1 (j := wi q P.seen.length) Try.underlying43 sz42 rfl rfl (by omega)) ?_
                    refine ta_one (i := 17) (by kernel_rfl) ?_
                    refine oa_u (i := 17) (listed' := #[true, true, true, true, true, true, true, true, true, true, true, true, true, true, true, true, true, true]) rfl rfl rfl (o_storeSl (i := wi q P.seen.length) sz42 rfl rfl hu1 hwlt (by repeat (first | exact foc_here | apply foc_left)) ) ?_
                    refine ta_done (by kernel_rfl) ?_
                    exact ⟨u49, rfl, rfl, rfl, rfl, by rw [hW3]; ac_rfl⟩
        · intro ρ A hI
          obtain ⟨u, h0, h3, h6, h7, rfl⟩ := hI
          refine q_then_n ?_
          refine tc_env (d := 0) h0 ?_
          refine tc_env (d := 3) h3 ?_
          refine tc_env (d := 6) h6 ?_
          refine tc_env (d := 7) h7 ?_
          refine tc_seq ?_
          refine tc_reg ?_
          refine tl_v rfl (o_move rfl) ?_
          refine tl_v rfl (o_nilCheck rfl) ?_
          refine tl_v rfl (o_fieldAddr (o := 4) Try.underlying46 rfl rfl sz44 rfl) ?_
          refine tl_v rfl (o_load p44 rfl (by repeat (first | exact has_here | exact has_pt | apply has_left)) rfl) ?_
          refine tl_v rfl (o_move rfl) ?_
          refine tl_v rfl (o_indexAddrN1 (j := wi q P.seen.length) Try.underlying44 sz4 rfl rfl (by omega)) ?_
          refine tl_u rfl (o_storeSl (i := wi q P.seen.length) sz4 rfl rfl rfl hwlt (by repeat (first | exact foc_here | apply foc_left)) ) ?_
          refine tl_nil ?_
          refine q_then_n ?_
          refine tc_seq ?_
          refine tc_seq ?_
          refine tc_reg ?_
          refine tl_v rfl (o_move rfl) ?_
          refine tl_v rfl (o_nilCheck rfl) ?_
          refine tl_v rfl (o_fieldAddr (o := 5) Try.underlying46 rfl rfl sz37 rfl) ?_
          refine tl_v rfl (o_load p37 rfl (by repeat (first | exact has_here | exact has_pt | apply has_left)) rfl) ?_
          refine tl_v rfl (o_move rfl) ?_
          refine tl_v rfl (o_indexAddrN1 (j := wi q P.seen.length / 8) Try.underlying37 sz3 rfl rfl (by omega)) ?_
          refine tl_v rfl (o_loadSl (k := 1) (i := wi q P.seen.length / 8) (xs := ints P.marks) (Y := Sl 1 (.slice (some ⟨bm, om, none⟩) P.marks.length cm) P.marks.length (ints P.marks)) p3 rfl (by repeat (first | exact foc_here | apply foc_left)) (ints_at hw8)) ?_
          refine tl_v rfl (o_eqi rfl rfl) ?_
          refine tl_nil ?_
          refine q_then_n ?_
          refine tc_cond rfl (fun h => ?_) (fun h => ?_)
          · try simp only [decide_eq_true_eq, decide_eq_false_iff_not, Bool.not_eq_true', Bool.not_eq_false', Option.isNone_some, Option.isNone_none, Bool.not_true, Bool.not_false] at h
            refine tc_reg ?_
            refine tl_v rfl (o_move rfl) ?_
            refine tl_v rfl (o_nilCheck rfl) ?_
            refine tl_v rfl (o_fieldAddr (o := 5) Try.underlying46 rfl rfl sz37 rfl) ?_
            refine tl_v rfl (o_load p37 rfl (by repeat (first | exact has_here | exact has_pt | apply has_left)) rfl) ?_
            refine tl_v rfl (o_move rfl) ?_
            refine tl_v rfl (o_indexAddrN1 (j := wi q P.seen.length / 8) Try.underlying37 sz3 rfl rfl (by omega)) ?_
            refine tl_u rfl (o_storeSl (i := wi q P.seen.length / 8) sz3 rfl rfl rfl hw8 (by repeat (first | exact foc_here | apply foc_left)) ) ?_
            refine tl_nil ?_
            refine q_then_n ?_
            refine tc_seq ?_
            refine tc_rega mo ?_
            show TA _ _ _ _ 11 #[false, false, false, false, false, false, false, false, false, false, false] _ _
            refine ta_pure (i := 0) (listed' := #[true, false, false, false, false, false, false, false, false, false, false]) rfl (by kernel_rfl) (by kernel_rfl) (by kernel_rfl) rfl rfl (o_move rfl) ?_
            refine ta_eq (A' := F * Words (hvs.set (wi q P.seen.length) u) (P.held.set (wi q P.seen.length) (P.held[wi q P.seen.length] ++ [v])) * pt p (cl (pcs d (.slice (some ⟨bs, os, none⟩) P.seen.length cs) (.slice (some ⟨bh, oh, none⟩) P.seen.length ch) (.slice (some ⟨bl, ol, none⟩) P.seen.length cL) (.slice (some ⟨bu, ou, none⟩) P.seen.length cu) (.slice (some ⟨bm, om, none⟩) P.marks.length cm)) 46) * Sl 1 (.slice (some ⟨bs, os, none⟩) P.seen.length cs) P.seen.length ((wds P.seen).set (wi q P.seen.length) (.int .u64 (v : Nat))) * Sl 1 (.slice (some ⟨bh, oh, none⟩) P.seen.length ch) P.seen.length (hvs.set (wi q P.seen.length) u) * Sl 1 (.slice (some ⟨bl, ol, none⟩) P.seen.length cL) P.seen.length (wds P.last) * Sl 1 (.slice (some ⟨bu, ou, none⟩) P.seen.length cu) P.seen.length ((bos P.sure).set (wi q P.seen.length) (.bool false)) * Sl 1 (.slice (some ⟨bm, om, none⟩) P.marks.length cm) P.marks.length ((ints P.marks).set (wi q P.seen.length / 8) (.int .i64 2)) * pt b3 (cl [.int .i64 k, .int .i64 q, nv, .int .u64 (v : Nat), dv, kv, av] 76) * Dev d P.s) (by ac_rfl) ?_
            refine ta_pure (i := 1) (listed' := #[true, true, false, false, false, false, false, false, false, false, false]) rfl (by kernel_rfl) (by kernel_rfl) (by kernel_rfl) rfl rfl (o_nilCheck rfl) ?_
            refine ta_pure (i := 2) (listed' := #[true, true, true, false, false, false, false, false, false, false, false]) rfl (by kernel_rfl) (by kernel_rfl) (by kernel_rfl) rfl rfl (o_fieldAddr (o := 0) Try.underlying46 rfl rfl sz41 rfl) ?_
            refine ta_pure (i := 4) (listed' := #[true, true, true, false, true, false, false, false, false, false, false]) rfl (by kernel_rfl) (by kernel_rfl) (by kernel_rfl) rfl rfl (o_move rfl) ?_
            refine ta_pure (i := 5) (listed' := #[true, true, true, false, true, true, false, false, false, false, false]) rfl (by kernel_rfl) (by kernel_rfl) (by kernel_rfl) rfl rfl (by first | exact o_mulI rfl rfl (by omega) | exact o_mul rfl rfl) ?_
            refine ta_pure (i := 6) (listed' := #[true, true, true, false, true, true, true, false, false, false, false]) rfl (by kernel_rfl) (by kernel_rfl) (by kernel_rfl) rfl rfl (o_fieldAddr (o := 3) Try.underlying76 rfl rfl sz53 rfl) ?_
            refine ta_two (i := 3) (j := 7) (by kernel_rfl) ?_ ?_
            · skip
              refine oa_v (i := 3) (listed' := #[true, true, true, true, true, true, true, false, false, false, false]) rfl rfl rfl (o_load p41 rfl (by repeat (first | exact has_here | exact has_pt | apply has_left)) rfl) ?_
              refine ta_one (i := 7) (by kernel_rfl) ?_
              refine oa_v (i := 7) (listed' := #[true, true, true, true, true, true, true, true, false, false, false]) rfl rfl rfl (o_load p53 rfl (by repeat (first | exact has_here | exact has_pt | apply has_left)) rfl) ?_
              refine ta_one (i := 8) (by kernel_rfl) ?_
              refine oa_c (i := 8) (listed' := #[true, true, true, true, true, true, true, true, true, false, false]) rfl rfl rfl (o_call bd40 rfl (Store8_f _ d v ((8 * wi q P.seen.length : Nat) : Int) P.s (by omega) hv64 (fun l hl => by have := hP.room l hl; omega))) ?_
              rintro _ _ ⟨rfl, rfl⟩
              refine ta_pure (i := 9) (listed' := #[true, true, true, true, true, true, true, true, true, true, false]) rfl (by kernel_rfl) (by kernel_rfl) (by kernel_rfl) rfl rfl (o_eqi rfl rfl) ?_
              refine ta_pure (i := 10) (listed' := #[true, true, true, true, true, true, true, true, true, true, true]) rfl (by kernel_rfl) (by kernel_rfl) (by kernel_rfl) rfl rfl (o_assign rfl) ?_
              refine ta_done (by kernel_rfl) ?_
              refine q_then_n ?_
              refine tc_ret ?_
              refine q_block_r (q_then_r ?_)
              have hmk : P.marks.getD (wi q P.seen.length / 8) 0 = P.marks[wi q P.seen.length / 8] := by simp [List.getD, hw8]
              have hhl : P.held.getD (wi q P.seen.length) [] = P.held[wi q P.seen.length] := by simp [List.getD, hwh]
              have e : stepP k q v P = (decide ((st8 ((8 * wi q P.seen.length : Nat) : Int) v P.s).1 = 0), ⟨(st8 ((8 * wi q P.seen.length : Nat) : Int) v P.s).2, P.seen.set (wi q P.seen.length) v, P.held.set (wi q P.seen.length) (P.held[wi q P.seen.length] ++ [v]), P.last, P.sure.set (wi q P.seen.length) false, P.marks.set (wi q P.seen.length / 8) 2⟩) := by
                unfold stepP; rw [if_pos hk, hhl, hmk, if_pos h]
              refine ⟨.bool (decide ((st8 ((8 * wi q P.seen.length : Nat) : Int) v P.s).1 = 0)), _, res1 rfl rfl, fun g w h => h.drop2, hvs.set (wi q P.seen.length) u, by rw [e], ?_⟩
              rw [e, plC_eq]
              simp only [List.length_set, wds_set', bos_set, ints_set]
            · skip
              refine oa_v (i := 7) (listed' := #[true, true, true, false, true, true, true, true, false, false, false]) rfl rfl rfl (o_load p53 rfl (by repeat (first | exact has_here | exact has_pt | apply has_left)) rfl) ?_
              refine ta_one (i := 3) (by kernel_rfl) ?_
              refine oa_v (i := 3) (listed' := #[true, true, true, true, true, true, true, true, false, false, false]) rfl rfl rfl (o_load p41 rfl (by repeat (first | exact has_here | exact has_pt | apply has_left)) rfl) ?_
              refine ta_one (i := 8) (by kernel_rfl) ?_
              refine oa_c (i := 8) (listed' := #[true, true, true, true, true, true, true, true, true, false, false]) rfl rfl rfl (o_call bd40 rfl (Store8_f _ d v ((8 * wi q P.seen.length : Nat) : Int) P.s (by omega) hv64 (fun l hl => by have := hP.room l hl; omega))) ?_
              rintro _ _ ⟨rfl, rfl⟩
              refine ta_pure (i := 9) (listed' := #[true, true, true, true, true, true, true, true, true, true, false]) rfl (by kernel_rfl) (by kernel_rfl) (by kernel_rfl) rfl rfl (o_eqi rfl rfl) ?_
              refine ta_pure (i := 10) (listed' := #[true, true, true, true, true, true, true, true, true, true, true]) rfl (by kernel_rfl) (by kernel_rfl) (by kernel_rfl) rfl rfl (o_assign rfl) ?_
              refine ta_done (by kernel_rfl) ?_
              refine q_then_n ?_
              refine tc_ret ?_
              refine q_block_r (q_then_r ?_)
              have hmk : P.marks.getD (wi q P.seen.length / 8) 0 = P.marks[wi q P.seen.length / 8] := by simp [List.getD, hw8]
              have hhl : P.held.getD (wi q P.seen.length) [] = P.held[wi q P.seen.length] := by simp [List.getD, hwh]
              have e : stepP k q v P = (decide ((st8 ((8 * wi q P.seen.length : Nat) : Int) v P.s).1 = 0), ⟨(st8 ((8 * wi q P.seen.length : Nat) : Int) v P.s).2, P.seen.set (wi q P.seen.length) v, P.held.set (wi q P.seen.length) (P.held[wi q P.seen.length] ++ [v]), P.last, P.sure.set (wi q P.seen.length) false, P.marks.set (wi q P.seen.length / 8) 2⟩) := by
                unfold stepP; rw [if_pos hk, hhl, hmk, if_pos h]
              refine ⟨.bool (decide ((st8 ((8 * wi q P.seen.length : Nat) : Int) v P.s).1 = 0)), _, res1 rfl rfl, fun g w h => h.drop2, hvs.set (wi q P.seen.length) u, by rw [e], ?_⟩
              rw [e, plC_eq]
              simp only [List.length_set, wds_set', bos_set, ints_set]
          · try simp only [decide_eq_true_eq, decide_eq_false_iff_not, Bool.not_eq_true', Bool.not_eq_false', Option.isNone_some, Option.isNone_none, Bool.not_true, Bool.not_false] at h
            refine tc_skip ?_
            refine q_then_n ?_
            refine tc_seq ?_
            refine tc_rega mo ?_
            show TA _ _ _ _ 11 #[false, false, false, false, false, false, false, false, false, false, false] _ _
            refine ta_pure (i := 0) (listed' := #[true, false, false, false, false, false, false, false, false, false, false]) rfl (by kernel_rfl) (by kernel_rfl) (by kernel_rfl) rfl rfl (o_move rfl) ?_
            refine ta_eq (A' := F * Words (hvs.set (wi q P.seen.length) u) (P.held.set (wi q P.seen.length) (P.held[wi q P.seen.length] ++ [v])) * pt p (cl (pcs d (.slice (some ⟨bs, os, none⟩) P.seen.length cs) (.slice (some ⟨bh, oh, none⟩) P.seen.length ch) (.slice (some ⟨bl, ol, none⟩) P.seen.length cL) (.slice (some ⟨bu, ou, none⟩) P.seen.length cu) (.slice (some ⟨bm, om, none⟩) P.marks.length cm)) 46) * Sl 1 (.slice (some ⟨bs, os, none⟩) P.seen.length cs) P.seen.length ((wds P.seen).set (wi q P.seen.length) (.int .u64 (v : Nat))) * Sl 1 (.slice (some ⟨bh, oh, none⟩) P.seen.length ch) P.seen.length (hvs.set (wi q P.seen.length) u) * Sl 1 (.slice (some ⟨bl, ol, none⟩) P.seen.length cL) P.seen.length (wds P.last) * Sl 1 (.slice (some ⟨bu, ou, none⟩) P.seen.length cu) P.seen.length ((bos P.sure).set (wi q P.seen.length) (.bool false)) * Sl 1 (.slice (some ⟨bm, om, none⟩) P.marks.length cm) P.marks.length (ints P.marks) * pt b3 (cl [.int .i64 k, .int .i64 q, nv, .int .u64 (v : Nat), dv, kv, av] 76) * Dev d P.s) (by ac_rfl) ?_
            refine ta_pure (i := 1) (listed' := #[true, true, false, false, false, false, false, false, false, false, false]) rfl (by kernel_rfl) (by kernel_rfl) (by kernel_rfl) rfl rfl (o_nilCheck rfl) ?_
            refine ta_pure (i := 2) (listed' := #[true, true, true, false, false, false, false, false, false, false, false]) rfl (by kernel_rfl) (by kernel_rfl) (by kernel_rfl) rfl rfl (o_fieldAddr (o := 0) Try.underlying46 rfl rfl sz41 rfl) ?_
            refine ta_pure (i := 4) (listed' := #[true, true, true, false, true, false, false, false, false, false, false]) rfl (by kernel_rfl) (by kernel_rfl) (by kernel_rfl) rfl rfl (o_move rfl) ?_
            refine ta_pure (i := 5) (listed' := #[true, true, true, false, true, true, false, false, false, false, false]) rfl (by kernel_rfl) (by kernel_rfl) (by kernel_rfl) rfl rfl (by first | exact o_mulI rfl rfl (by omega) | exact o_mul rfl rfl) ?_
            refine ta_pure (i := 6) (listed' := #[true, true, true, false, true, true, true, false, false, false, false]) rfl (by kernel_rfl) (by kernel_rfl) (by kernel_rfl) rfl rfl (o_fieldAddr (o := 3) Try.underlying76 rfl rfl sz53 rfl) ?_
            refine ta_two (i := 3) (j := 7) (by kernel_rfl) ?_ ?_
            · skip
              refine oa_v (i := 3) (listed' := #[true, true, true, true, true, true, true, false, false, false, false]) rfl rfl rfl (o_load p41 rfl (by repeat (first | exact has_here | exact has_pt | apply has_left)) rfl) ?_
              refine ta_one (i := 7) (by kernel_rfl) ?_
              refine oa_v (i := 7) (listed' := #[true, true, true, true, true, true, true, true, false, false, false]) rfl rfl rfl (o_load p53 rfl (by repeat (first | exact has_here | exact has_pt | apply has_left)) rfl) ?_
              refine ta_one (i := 8) (by kernel_rfl) ?_
              refine oa_c (i := 8) (listed' := #[true, true, true, true, true, true, true, true, true, false, false]) rfl rfl rfl (o_call bd40 rfl (Store8_f _ d v ((8 * wi q P.seen.length : Nat) : Int) P.s (by omega) hv64 (fun l hl => by have := hP.room l hl; omega))) ?_
              rintro _ _ ⟨rfl, rfl⟩
              refine ta_pure (i := 9) (listed' := #[true, true, true, true, true, true, true, true, true, true, false]) rfl (by kernel_rfl) (by kernel_rfl) (by kernel_rfl) rfl rfl (o_eqi rfl rfl) ?_
              refine ta_pure (i := 10) (listed' := #[true, true, true, true, true, true, true, true, true, true, true]) rfl (by kernel_rfl) (by kernel_rfl) (by kernel_rfl) rfl rfl (o_assign rfl) ?_
              refine ta_done (by kernel_rfl) ?_
              refine q_then_n ?_
              refine tc_ret ?_
              refine q_block_r (q_then_r ?_)
              have hmk : P.marks.getD (wi q P.seen.length / 8) 0 = P.marks[wi q P.seen.length / 8] := by simp [List.getD, hw8]
              have hhl : P.held.getD (wi q P.seen.length) [] = P.held[wi q P.seen.length] := by simp [List.getD, hwh]
              have e : stepP k q v P = (decide ((st8 ((8 * wi q P.seen.length : Nat) : Int) v P.s).1 = 0), ⟨(st8 ((8 * wi q P.seen.length : Nat) : Int) v P.s).2, P.seen.set (wi q P.seen.length) v, P.held.set (wi q P.seen.length) (P.held[wi q P.seen.length] ++ [v]), P.last, P.sure.set (wi q P.seen.length) false, P.marks⟩) := by
                unfold stepP; rw [if_pos hk, hhl, hmk, if_neg h]
              refine ⟨.bool (decide ((st8 ((8 * wi q P.seen.length : Nat) : Int) v P.s).1 = 0)), _, res1 rfl rfl, fun g w h => h.drop2, hvs.set (wi q P.seen.length) u, by rw [e], ?_⟩
              rw [e, plC_eq]
              simp only [List.length_set, wds_set', bos_set, ints_set]
            · skip
              refine oa_v (i := 7) (listed' := #[true, true, true, false, true, true, true, true, false, false, false]) rfl rfl rfl (o_load p53 rfl (by repeat (first | exact has_here | exact has_pt | apply has_left)) rfl) ?_
              refine ta_one (i := 3) (by kernel_rfl) ?_
              refine oa_v (i := 3) (listed' := #[true, true, true, true, true, true, true, true, false, false, false]) rfl rfl rfl (o_load p41 rfl (by repeat (first | exact has_here | exact has_pt | apply has_left)) rfl) ?_
              refine ta_one (i := 8) (by kernel_rfl) ?_
              refine oa_c (i := 8) (listed' := #[true, true, true, true, true, true, true, true, true, false, false]) rfl rfl rfl (o_call bd40 rfl (Store8_f _ d v ((8 * wi q P.seen.length : Nat) : Int) P.s (by omega) hv64 (fun l hl => by have := hP.room l hl; omega))) ?_
              rintro _ _ ⟨rfl, rfl⟩
              refine ta_pure (i := 9) (listed' := #[true, true, true, true, true, true, true, true, true, true, false]) rfl (by kernel_rfl) (by kernel_rfl) (by kernel_rfl) rfl rfl (o_eqi rfl rfl) ?_
              refine ta_pure (i := 10) (listed' := #[true, true, true, true, true, true, true, true, true, true, true]) rfl (by kernel_rfl) (by kernel_rfl) (by kernel_rfl) rfl rfl (o_assign rfl) ?_
              refine ta_done (by kernel_rfl) ?_
              refine q_then_n ?_
              refine tc_ret ?_
              refine q_block_r (q_then_r ?_)
              have hmk : P.marks.getD (wi q P.seen.length / 8) 0 = P.marks[wi q P.seen.length / 8] := by simp [List.getD, hw8]
              have hhl : P.held.getD (wi q P.seen.length) [] = P.held[wi q P.seen.length] := by simp [List.getD, hwh]
              have e : stepP k q v P = (decide ((st8 ((8 * wi q P.seen.length : Nat) : Int) v P.s).1 = 0), ⟨(st8 ((8 * wi q P.seen.length : Nat) : Int) v P.s).2, P.seen.set (wi q P.seen.length) v, P.held.set (wi q P.seen.length) (P.held[wi q P.seen.length] ++ [v]), P.last, P.sure.set (wi q P.seen.length) false, P.marks⟩) := by
                unfold stepP; rw [if_pos hk, hhl, hmk, if_neg h]
              refine ⟨.bool (decide ((st8 ((8 * wi q P.seen.length : Nat) : Int) v P.s).1 = 0)), _, res1 rfl rfl, fun g w h => h.drop2, hvs.set (wi q P.seen.length) u, by rw [e], ?_⟩
              rw [e, plC_eq]
              simp only [List.length_set, wds_set', bos_set, ints_set]
    · (exfalso; first | (revert h; simp; done) | (revert h; simp; omega) | (simp at h; omega) | omega)

set_option maxRecDepth 20000 in
set_option maxHeartbeats 2000000 in
theorem play4_f (F : SP) (p d v : Nat) (k q : Int) (nv dv kv av sv hv lv uv mv : Value) (hvs : List Value) (P : PlS) (hP : WfP 1 P) (hv64 : v < 18446744073709551616) (hk4 : k = 4) :
    Fn Try.prog 45 #[.pointer (some ⟨p, 0, none⟩), .agg [.int .i64 k, .int .i64 q, nv, .int .u64 (v : Nat), dv, kv, av].toArray] (F * PlC p d sv hv lv uv mv hvs P) (fun r B => ∃ hvs', r = .bool (stepP k q v P).1 ∧ B = F * PlC p d sv hv lv uv mv hvs' (stepP k q v P).2) := by
  have hE := @fn_enterW Try.prog 45 Try.f45 _ [.pointer (some ⟨p, 0, none⟩), .agg [.int .i64 k, .int .i64 q, nv, .int .u64 (v : Nat), dv, kv, av].toArray] (F * PlC p d sv hv lv uv mv hvs P) (fun r B => ∃ hvs', r = .bool (stepP k q v P).1 ∧ B = F * PlC p d sv hv lv uv mv hvs' (stepP k q v P).2) _ Try.func45 rfl Try.ntmps45 (by simp)
  refine hE ?_
  clear hE
  have hw0 : 0 < P.seen.length := by have := hP.seen; have := hP.pos; omega
  have hseen := hP.seen
  have htop := hP.top
  have hpos := hP.pos
  have hlastl := hP.last
  have hsurel := hP.sure
  have hheldl := hP.held
  have hlsl := hP.ls
  have hwlt := wi_lt (p := q) hw0
  have hw8 : wi q P.seen.length / 8 < P.marks.length := by omega
  refine tc_eq plC_eq ?_
  refine tc_have (fun _ _ h => Foc.have_sl1 (k := 1) (n := P.seen.length) (v := sv) (xs := wds P.seen) (Y := Sl 1 sv P.seen.length (wds P.seen)) (by repeat (first | exact foc_here | apply foc_left)) (by omega) h) fun ⟨bs, os, cs, hsv, _, _⟩ => ?_
  refine tc_have (fun _ _ h => Foc.have_sl1 (k := 1) (n := P.seen.length) (v := hv) (xs := hvs) (Y := Sl 1 hv P.seen.length hvs) (by repeat (first | exact foc_here | apply foc_left)) (by omega) h) fun ⟨bh, oh, ch, hhv, _, hvl⟩ => ?_
  refine tc_have (fun _ _ h => Foc.have_sl1 (k := 1) (n := P.seen.length) (v := lv) (xs := wds P.last) (Y := Sl 1 lv P.seen.length (wds P.last)) (by repeat (first | exact foc_here | apply foc_left)) (by omega) h) fun ⟨bl, ol, cL, hlv, _, _⟩ => ?_
  refine tc_have (fun _ _ h => Foc.have_sl1 (k := 1) (n := P.seen.length) (v := uv) (xs := bos P.sure) (Y := Sl 1 uv P.seen.length (bos P.sure)) (by repeat (first | exact foc_here | apply foc_left)) (by omega) h) fun ⟨bu, ou, cu, huv, _, _⟩ => ?_
  refine tc_have (fun _ _ h => Foc.have_sl1 (k := 1) (n := P.marks.length) (v := mv) (xs := ints P.marks) (Y := Sl 1 mv P.marks.length (ints P.marks)) (by repeat (first | exact foc_here | apply foc_left)) (by omega) h) fun ⟨bm, om, cm, hmv, _, _⟩ => ?_
  subst hsv hhv hlv huv hmv
  have hwh : wi q P.seen.length < P.held.length := by omega
  have hwv : wi q P.seen.length < hvs.length := by omega
  obtain ⟨R, hW1, hW2⟩ := words_get (vs := hvs) (ls := P.held) (i := wi q P.seen.length) (by omega) hwh
  have hW3 : ∀ u, Words (hvs.set (wi q P.seen.length) u) (P.held.set (wi q P.seen.length) (P.held[wi q P.seen.length] ++ [v])) = R * Sl 1 u (P.held[wi q P.seen.length].length + 1) (wds P.held[wi q P.seen.length] ++ [.int .u64 (v : Nat)]) := fun u => by
    rw [hW2, List.length_append]; unfold wds; rw [List.map_append]; rfl
  have hhroom := hP.hroom _ (List.getElem_mem hwh)
  refine tc_seq ?_
  refine tc_reg ?_
  refine tl_x rfl (o_box rfl rfl) ?_
  rintro _ _ ⟨b3, rfl, rfl⟩
  refine tl_v rfl (o_assign rfl) ?_
  refine tl_nil ?_
  refine q_then_n ?_
  refine tc_seq ?_
  refine tc_reg ?_
  refine tl_v rfl (o_move rfl) ?_
  refine tl_v rfl (o_nilCheck rfl) ?_
  refine tl_v rfl (o_fieldAddr (o := 1) Try.underlying46 rfl rfl sz42 rfl) ?_
  refine tl_v rfl (o_load p42 rfl (by repeat (first | exact has_here | exact has_pt | apply has_left)) rfl) ?_
  refine tl_v rfl (o_len Try.underlying42 rfl) ?_
  refine tl_v rfl (o_assign rfl) ?_
  refine tl_nil ?_
  refine q_then_n ?_
  refine tc_seq ?_
  refine tc_reg ?_
  refine tl_v rfl (o_fieldAddr (o := 1) Try.underlying76 rfl rfl sz3 rfl) ?_
  refine tl_v rfl (o_load p3 rfl (by repeat (first | exact has_here | exact has_pt | apply has_left)) rfl) ?_
  refine tl_v rfl (o_move rfl) ?_
  refine tl_c rfl (o_call bd37 rfl (within_f _ q (P.seen.length : Nat) (by omega))) ?_
  rintro _ _ ⟨rfl, rfl⟩
  refine tl_env (d := 18) (v := .int .i64 ((wi q P.seen.length : Nat) : Int)) (by show Value.int .i64 (q % (P.seen.length : Int)) = _; rw [wi_cast hw0]) ?_
  refine tl_v rfl (o_assign rfl) ?_
  refine tl_nil ?_
  refine q_then_n ?_
  refine tc_seq ?_
  refine tc_reg ?_
  refine tl_v rfl (o_move rfl) ?_
  refine tl_v rfl (o_quoN (a := wi q P.seen.length) (b := 8) rfl rfl (by omega)) ?_
  refine tl_v rfl (o_assign rfl) ?_
  refine tl_nil ?_
  refine q_then_n ?_
  refine tc_seq ?_
  refine tc_seq ?_
  refine tc_reg ?_
  refine tl_v rfl (o_fieldAddr (o := 0) Try.underlying76 rfl rfl sz3 rfl) ?_
  refine tl_v rfl (o_load p3 rfl (by repeat (first | exact has_here | exact has_pt | apply has_left)) rfl) ?_
  refine tl_nil ?_
  refine q_then_n ?_
  refine tc_block ?_
  refine tc_seq ?_
  refine tc_seq ?_
  refine tc_reg ?_
  refine tl_v rfl (o_eqi rfl rfl) ?_
  refine tl_v rfl (o_assign rfl) ?_
  refine tl_nil ?_
  refine q_then_n ?_
  refine tc_cond rfl (fun h => ?_) (fun h => ?_)
  · (exfalso; first | (revert h; simp; done) | (revert h; simp; omega) | (simp at h; omega) | omega)
  · try simp only [decide_eq_true_eq, decide_eq_false_iff_not, Bool.not_eq_true', Bool.not_eq_false', Option.isNone_some, Option.isNone_none, Bool.not_true, Bool.not_false] at h
    refine tc_reg ?_
    refine tl_v rfl (o_eqi rfl rfl) ?_
    refine tl_v rfl (o_assign rfl) ?_
    refine tl_nil ?_
    refine q_then_n ?_
    refine tc_cond rfl (fun h => ?_) (fun h => ?_)
    · (exfalso; first | (revert h; simp; done) | (revert h; simp; omega) | (simp at h; omega) | omega)
    · try simp only [decide_eq_true_eq, decide_eq_false_iff_not, Bool.not_eq_true', Bool.not_eq_false', Option.isNone_some, Option.isNone_none, Bool.not_true, Bool.not_false] at h
      refine tc_seq ?_
      refine tc_reg ?_
      refine tl_v rfl (o_eqi rfl rfl) ?_
      refine tl_v rfl (o_assign rfl) ?_
      refine tl_nil ?_
      refine q_then_n ?_
      refine tc_cond rfl (fun h => ?_) (fun h => ?_)
      · try simp only [decide_eq_true_eq, decide_eq_false_iff_not, Bool.not_eq_true', Bool.not_eq_false', Option.isNone_some, Option.isNone_none, Bool.not_true, Bool.not_false] at h
        refine tc_seq ?_
        refine tc_reg ?_
        refine tl_v rfl (o_move rfl) ?_
        refine tl_v rfl (o_nilCheck rfl) ?_
        refine tl_v rfl (o_fieldAddr (o := 5) Try.underlying46 rfl rfl sz37 rfl) ?_
        refine tl_v rfl (o_load p37 rfl (by repeat (first | exact has_here | exact has_pt | apply has_left)) rfl) ?_
        refine tl_v rfl (o_move rfl) ?_
        refine tl_v rfl (o_indexAddrN1 (j := wi q P.seen.length / 8) Try.underlying37 sz3 rfl rfl (by omega)) ?_
        refine tl_u rfl (o_storeSl (i := wi q P.seen.length / 8) sz3 rfl rfl rfl hw8 (by repeat (first | exact foc_here | apply foc_left)) ) ?_
        refine tl_nil ?_
        refine q_then_n ?_
        refine tc_seq ?_
        refine tc_reg ?_
        refine tl_v rfl (o_move rfl) ?_
        refine tl_v rfl (o_nilCheck rfl) ?_
        refine tl_v rfl (o_fieldAddr (o := 0) Try.underlying46 rfl rfl sz41 rfl) ?_
        refine tl_v rfl (o_load p41 rfl (by repeat (first | exact has_here | exact has_pt | apply has_left)) rfl) ?_
        refine tl_v rfl (o_move rfl) ?_
        refine tl_v rfl (by first | exact o_mulI rfl rfl (by omega) | exact o_mul rfl rfl) ?_
        refine tl_eq (A' := F * Words hvs P.held * pt p (cl (pcs d (.slice (some ⟨bs, os, none⟩) P.seen.length cs) (.slice (some ⟨bh, oh, none⟩) P.seen.length ch) (.slice (some ⟨bl, ol, none⟩) P.seen.length cL) (.slice (some ⟨bu, ou, none⟩) P.seen.length cu) (.slice (some ⟨bm, om, none⟩) P.marks.length cm)) 46) * Sl 1 (.slice (some ⟨bs, os, none⟩) P.seen.length cs) P.seen.length (wds P.seen) * Sl 1 (.slice (some ⟨bh, oh, none⟩) P.seen.length ch) P.seen.length (hvs) * Sl 1 (.slice (some ⟨bl, ol, none⟩) P.seen.length cL) P.seen.length (wds P.last) * Sl 1 (.slice (some ⟨bu, ou, none⟩) P.seen.length cu) P.seen.length (bos P.sure) * Sl 1 (.slice (some ⟨bm, om, none⟩) P.marks.length cm) P.marks.length ((ints P.marks).set (wi q P.seen.length / 8) (.int .i64 1)) * pt b3 (cl [.int .i64 k, .int .i64 q, nv, .int .u64 (v : Nat), dv, kv, av] 76) * Dev d P.s) (by ac_rfl) ?_
        refine tl_c rfl (o_call bd87 rfl (Flush_f _ d ((8 * wi q P.seen.length : Nat) : Int) P.s (by omega))) ?_
        rintro _ _ ⟨rfl, rfl⟩
        refine tl_v rfl (o_eqi rfl rfl) ?_
        refine tl_v rfl (o_assign rfl) ?_
        refine tl_nil ?_
        refine q_then_n ?_
        refine tc_ret ?_
        refine q_block_r (q_then_r ?_)
        have hk : ¬ (k = 2 ∨ k = 3) := by omega
        have e : stepP k q v P = (decide ((fl1 ((8 * wi q P.seen.length : Nat) : Int) P.s).1 = 0), { P with s := (fl1 ((8 * wi q P.seen.length : Nat) : Int) P.s).2, marks := P.marks.set (wi q P.seen.length / 8) 1 }) := by
          unfold stepP; rw [if_neg hk, if_pos hk4]
        refine ⟨.bool (decide ((fl1 ((8 * wi q P.seen.length : Nat) : Int) P.s).1 = 0)), _, res1 rfl rfl, fun g w h => h.drop2, hvs, by rw [e], ?_⟩
        rw [e, plC_eq]
        simp only [List.length_set, ints_set]
      · (exfalso; first | (revert h; simp; done) | (revert h; simp; omega) | (simp at h; omega) | omega)

set_option maxRecDepth 20000 in
set_option maxHeartbeats 2000000 in
theorem play5_f (F : SP) (p d v : Nat) (k q : Int) (nv dv kv av sv hv lv uv mv : Value) (hvs : List Value) (P : PlS) (hP : WfP 1 P) (hv64 : v < 18446744073709551616) (hk5 : k = 5) :
    Fn Try.prog 45 #[.pointer (some ⟨p, 0, none⟩), .agg [.int .i64 k, .int .i64 q, nv, .int .u64 (v : Nat), dv, kv, av].toArray] (F * PlC p d sv hv lv uv mv hvs P) (fun r B => ∃ hvs', r = .bool (stepP k q v P).1 ∧ B = F * PlC p d sv hv lv uv mv hvs' (stepP k q v P).2) := by
  have hE := @fn_enterW Try.prog 45 Try.f45 _ [.pointer (some ⟨p, 0, none⟩), .agg [.int .i64 k, .int .i64 q, nv, .int .u64 (v : Nat), dv, kv, av].toArray] (F * PlC p d sv hv lv uv mv hvs P) (fun r B => ∃ hvs', r = .bool (stepP k q v P).1 ∧ B = F * PlC p d sv hv lv uv mv hvs' (stepP k q v P).2) _ Try.func45 rfl Try.ntmps45 (by simp)
  refine hE ?_
  clear hE
  have hw0 : 0 < P.seen.length := by have := hP.seen; have := hP.pos; omega
  have hseen := hP.seen
  have htop := hP.top
  have hpos := hP.pos
  have hlastl := hP.last
  have hsurel := hP.sure
  have hheldl := hP.held
  have hlsl := hP.ls
  have hwlt := wi_lt (p := q) hw0
  have hw8 : wi q P.seen.length / 8 < P.marks.length := by omega
  refine tc_eq plC_eq ?_
  refine tc_have (fun _ _ h => Foc.have_sl1 (k := 1) (n := P.seen.length) (v := sv) (xs := wds P.seen) (Y := Sl 1 sv P.seen.length (wds P.seen)) (by repeat (first | exact foc_here | apply foc_left)) (by omega) h) fun ⟨bs, os, cs, hsv, _, _⟩ => ?_
  refine tc_have (fun _ _ h => Foc.have_sl1 (k := 1) (n := P.seen.length) (v := hv) (xs := hvs) (Y := Sl 1 hv P.seen.length hvs) (by repeat (first | exact foc_here | apply foc_left)) (by omega) h) fun ⟨bh, oh, ch, hhv, _, hvl⟩ => ?_
  refine tc_have (fun _ _ h => Foc.have_sl1 (k := 1) (n := P.seen.length) (v := lv) (xs := wds P.last) (Y := Sl 1 lv P.seen.length (wds P.last)) (by repeat (first | exact foc_here | apply foc_left)) (by omega) h) fun ⟨bl, ol, cL, hlv, _, _⟩ => ?_
  refine tc_have (fun _ _ h => Foc.have_sl1 (k := 1) (n := P.seen.length) (v := uv) (xs := bos P.sure) (Y := Sl 1 uv P.seen.length (bos P.sure)) (by repeat (first | exact foc_here | apply foc_left)) (by omega) h) fun ⟨bu, ou, cu, huv, _, _⟩ => ?_
  refine tc_have (fun _ _ h => Foc.have_sl1 (k := 1) (n := P.marks.length) (v := mv) (xs := ints P.marks) (Y := Sl 1 mv P.marks.length (ints P.marks)) (by repeat (first | exact foc_here | apply foc_left)) (by omega) h) fun ⟨bm, om, cm, hmv, _, _⟩ => ?_
  subst hsv hhv hlv huv hmv
  have hwh : wi q P.seen.length < P.held.length := by omega
  have hwv : wi q P.seen.length < hvs.length := by omega
  obtain ⟨R, hW1, hW2⟩ := words_get (vs := hvs) (ls := P.held) (i := wi q P.seen.length) (by omega) hwh
  have hW3 : ∀ u, Words (hvs.set (wi q P.seen.length) u) (P.held.set (wi q P.seen.length) (P.held[wi q P.seen.length] ++ [v])) = R * Sl 1 u (P.held[wi q P.seen.length].length + 1) (wds P.held[wi q P.seen.length] ++ [.int .u64 (v : Nat)]) := fun u => by
    rw [hW2, List.length_append]; unfold wds; rw [List.map_append]; rfl
  have hhroom := hP.hroom _ (List.getElem_mem hwh)
  refine tc_seq ?_
  refine tc_reg ?_
  refine tl_x rfl (o_box rfl rfl) ?_
  rintro _ _ ⟨b3, rfl, rfl⟩
  refine tl_v rfl (o_assign rfl) ?_
  refine tl_nil ?_
  refine q_then_n ?_
  refine tc_seq ?_
  refine tc_reg ?_
  refine tl_v rfl (o_move rfl) ?_
  refine tl_v rfl (o_nilCheck rfl) ?_
  refine tl_v rfl (o_fieldAddr (o := 1) Try.underlying46 rfl rfl sz42 rfl) ?_
  refine tl_v rfl (o_load p42 rfl (by repeat (first | exact has_here | exact has_pt | apply has_left)) rfl) ?_
  refine tl_v rfl (o_len Try.underlying42 rfl) ?_
  refine tl_v rfl (o_assign rfl) ?_
  refine tl_nil ?_
  refine q_then_n ?_
  refine tc_seq ?_
  refine tc_reg ?_
  refine tl_v rfl (o_fieldAddr (o := 1) Try.underlying76 rfl rfl sz3 rfl) ?_
  refine tl_v rfl (o_load p3 rfl (by repeat (first | exact has_here | exact has_pt | apply has_left)) rfl) ?_
  refine tl_v rfl (o_move rfl) ?_
  refine tl_c rfl (o_call bd37 rfl (within_f _ q (P.seen.length : Nat) (by omega))) ?_
  rintro _ _ ⟨rfl, rfl⟩
  refine tl_env (d := 18) (v := .int .i64 ((wi q P.seen.length : Nat) : Int)) (by show Value.int .i64 (q % (P.seen.length : Int)) = _; rw [wi_cast hw0]) ?_
  refine tl_v rfl (o_assign rfl) ?_
  refine tl_nil ?_
  refine q_then_n ?_
  refine tc_seq ?_
  refine tc_reg ?_
  refine tl_v rfl (o_move rfl) ?_
  refine tl_v rfl (o_quoN (a := wi q P.seen.length) (b := 8) rfl rfl (by omega)) ?_
  refine tl_v rfl (o_assign rfl) ?_
  refine tl_nil ?_
  refine q_then_n ?_
  refine tc_seq ?_
  refine tc_seq ?_
  refine tc_reg ?_
  refine tl_v rfl (o_fieldAddr (o := 0) Try.underlying76 rfl rfl sz3 rfl) ?_
  refine tl_v rfl (o_load p3 rfl (by repeat (first | exact has_here | exact has_pt | apply has_left)) rfl) ?_
  refine tl_nil ?_
  refine q_then_n ?_
  refine tc_block ?_
  refine tc_seq ?_
  refine tc_seq ?_
  refine tc_reg ?_
  refine tl_v rfl (o_eqi rfl rfl) ?_
  refine tl_v rfl (o_assign rfl) ?_
  refine tl_nil ?_
  refine q_then_n ?_
  refine tc_cond rfl (fun h => ?_) (fun h => ?_)
  · (exfalso; first | (revert h; simp; done) | (revert h; simp; omega) | (simp at h; omega) | omega)
  · try simp only [decide_eq_true_eq, decide_eq_false_iff_not, Bool.not_eq_true', Bool.not_eq_false', Option.isNone_some, Option.isNone_none, Bool.not_true, Bool.not_false] at h
    refine tc_reg ?_
    refine tl_v rfl (o_eqi rfl rfl) ?_
    refine tl_v rfl (o_assign rfl) ?_
    refine tl_nil ?_
    refine q_then_n ?_
    refine tc_cond rfl (fun h => ?_) (fun h => ?_)
    · (exfalso; first | (revert h; simp; done) | (revert h; simp; omega) | (simp at h; omega) | omega)
    · try simp only [decide_eq_true_eq, decide_eq_false_iff_not, Bool.not_eq_true', Bool.not_eq_false', Option.isNone_some, Option.isNone_none, Bool.not_true, Bool.not_false] at h
      refine tc_seq ?_
      refine tc_reg ?_
      refine tl_v rfl (o_eqi rfl rfl) ?_
      refine tl_v rfl (o_assign rfl) ?_
      refine tl_nil ?_
      refine q_then_n ?_
      refine tc_cond rfl (fun h => ?_) (fun h => ?_)
      · (exfalso; first | (revert h; simp; done) | (revert h; simp; omega) | (simp at h; omega) | omega)
      · try simp only [decide_eq_true_eq, decide_eq_false_iff_not, Bool.not_eq_true', Bool.not_eq_false', Option.isNone_some, Option.isNone_none, Bool.not_true, Bool.not_false] at h
        refine tc_seq ?_
        refine tc_reg ?_
        refine tl_v rfl (o_eqi rfl rfl) ?_
        refine tl_v rfl (o_assign rfl) ?_
        refine tl_nil ?_
        refine q_then_n ?_
        refine tc_cond rfl (fun h => ?_) (fun h => ?_)
        · try simp only [decide_eq_true_eq, decide_eq_false_iff_not, Bool.not_eq_true', Bool.not_eq_false', Option.isNone_some, Option.isNone_none, Bool.not_true, Bool.not_false] at h
          refine tc_seq ?_
          refine tc_seq ?_
          refine tc_reg ?_
          refine tl_v rfl (o_assign rfl) ?_
          refine tl_nil ?_
          refine q_then_n ?_
          refine tc_block ?_
          refine tc_loop (fun j ρ A => ∃ i : Nat, i ≤ P.seen.length ∧ j = P.seen.length - i ∧ ρ 0 = .pointer (some ⟨p, 0, none⟩) ∧ ρ 5 = .int .i64 (P.seen.length : Nat) ∧ ρ 8 = .int .i64 (i : Nat) ∧ A = F * Words hvs P.held * pt p (cl (pcs d (.slice (some ⟨bs, os, none⟩) P.seen.length cs) (.slice (some ⟨bh, oh, none⟩) P.seen.length ch) (.slice (some ⟨bl, ol, none⟩) P.seen.length cL) (.slice (some ⟨bu, ou, none⟩) P.seen.length cu) (.slice (some ⟨bm, om, none⟩) P.marks.length cm)) 46) * Sl 1 (.slice (some ⟨bs, os, none⟩) P.seen.length cs) P.seen.length (wds P.seen) * Sl 1 (.slice (some ⟨bh, oh, none⟩) P.seen.length ch) P.seen.length (hvs) * Sl 1 (.slice (some ⟨bl, ol, none⟩) P.seen.length cL) P.seen.length (wds (pm (lastF P.marks P.seen) i P.last)) * Sl 1 (.slice (some ⟨bu, ou, none⟩) P.seen.length cu) P.seen.length (bos (pm (sureF P.marks) i P.sure)) * Sl 1 (.slice (some ⟨bm, om, none⟩) P.marks.length cm) P.marks.length (ints P.marks) * Dev d P.s * pt b3 (cl [.int .i64 k, .int .i64 q, nv, .int .u64 (v : Nat), dv, kv, av] 76)) (m := P.seen.length) ?_ ?_
          · exact ⟨0, by omega, rfl, rfl, rfl, rfl, by rw [pm_zero, pm_zero]⟩
          · intro k ρ B hI
            obtain ⟨i, hi, rfl, h0, h5, h8, rfl⟩ := hI
            refine tc_env (d := 0) h0 ?_
            refine tc_env (d := 5) h5 ?_
            refine tc_env (d := 8) h8 ?_
            refine tc_seq ?_
            refine tc_seq ?_
            refine tc_reg ?_
            refine tl_v rfl (o_move rfl) ?_
            refine tl_v rfl (o_move rfl) ?_
            refine tl_v rfl (o_lss rfl rfl) ?_
            refine tl_nil ?_
            refine q_then_n ?_
            refine tc_cond rfl (fun h => ?_) (fun h => ?_)
            · simp only [decide_eq_true_eq] at h
              have hi' : i < P.seen.length := by omega
              have hi8 : i / 8 < P.marks.length := by omega
              have hil : i < P.last.length := by omega
              have his : i < P.sure.length := by omega
              have hmk : P.marks.getD (i / 8) 0 = P.marks[i / 8] := by simp [List.getD, hi8]
              have hsn : P.seen.getD i 0 = P.seen[i] := by simp [List.getD, hi']
              refine tc_skip ?_
              refine q_then_n ?_
              refine tc_seq ?_
              refine tc_block ?_
              refine tc_seq ?_
              refine tc_reg ?_
              refine tl_v rfl (o_move rfl) ?_
              refine tl_v rfl (o_nilCheck rfl) ?_
              refine tl_v rfl (o_fieldAddr (o := 5) Try.underlying46 rfl rfl sz37 rfl) ?_
              refine tl_v rfl (o_load p37 rfl (by repeat (first | exact has_here | exact has_pt | apply has_left)) rfl) ?_
              refine tl_v rfl (o_move rfl) ?_
              refine tl_v rfl (o_quoN (a := i) (b := 8) rfl rfl (by omega)) ?_
              refine tl_v rfl (o_indexAddrN1 (j := i / 8) Try.underlying37 sz3 rfl rfl (by omega)) ?_
              refine tl_v rfl (o_loadSl (k := 1) (i := i / 8) (xs := ints P.marks) (Y := Sl 1 (.slice (some ⟨bm, om, none⟩) P.marks.length cm) P.marks.length (ints P.marks)) p3 rfl (by repeat (first | exact foc_here | apply foc_left)) (ints_at hi8)) ?_
              refine tl_v rfl (o_eqi rfl rfl) ?_
              refine tl_nil ?_
              refine q_then_n ?_
              refine tc_cond rfl (fun h => ?_) (fun h => ?_)
              · simp only [decide_eq_true_eq] at h
                have hl1 : (pm (lastF P.marks P.seen) i P.last).set i P.seen[i] = pm (lastF P.marks P.seen) (i + 1) P.last := by
                  rw [← pm_set (lastF P.marks P.seen) hil, show lastF P.marks P.seen i P.last[i] = P.seen[i] by unfold lastF; rw [if_pos (by omega), hsn]]
                have hs1 : (pm (sureF P.marks) i P.sure).set i true = pm (sureF P.marks) (i + 1) P.sure := by
                  rw [← pm_set (sureF P.marks) his, show sureF P.marks i P.sure[i] = true by unfold sureF; rw [if_pos (by omega)]]
                refine tc_seq ?_
                refine tc_cut (fun ρ A => ρ 0 = .pointer (some ⟨p, 0, none⟩) ∧ ρ 5 = .int .i64 (P.seen.length : Nat) ∧ ρ 8 = .int .i64 (i : Nat) ∧ A = F * Words hvs P.held * pt p (cl (pcs d (.slice (some ⟨bs, os, none⟩) P.seen.length cs) (.slice (some ⟨bh, oh, none⟩) P.seen.length ch) (.slice (some ⟨bl, ol, none⟩) P.seen.length cL) (.slice (some ⟨bu, ou, none⟩) P.seen.length cu) (.slice (some ⟨bm, om, none⟩) P.marks.length cm)) 46) * Sl 1 (.slice (some ⟨bs, os, none⟩) P.seen.length cs) P.seen.length (wds P.seen) * Sl 1 (.slice (some ⟨bh, oh, none⟩) P.seen.length ch) P.seen.length (hvs) * Sl 1 (.slice (some ⟨bl, ol, none⟩) P.seen.length cL) P.seen.length (wds (pm (lastF P.marks P.seen) (i + 1) P.last)) * Sl 1 (.slice (some ⟨bu, ou, none⟩) P.seen.length cu) P.seen.length (bos (pm (sureF P.marks) i P.sure)) * Sl 1 (.slice (some ⟨bm, om, none⟩) P.marks.length cm) P.marks.length (ints P.marks) * Dev d P.s * pt b3 (cl [.int .i64 k, .int .i64 q, nv, .int .u64 (v : Nat), dv, kv, av] 76)) ?_ ?_
                · skip
                  refine tc_rega mo ?_
                  show TA _ _ _ _ 14 #[false, false, false, false, false, false, false, false, false, false, false, false, false, false] _ _
                  refine ta_pure (i := 0) (listed' := #[true, false, false, false, false, false, false, false, false, false, false, false, false, false]) rfl (by kernel_rfl) (by kernel_rfl) (by kernel_rfl) rfl rfl (o_move rfl) ?_
                  refine ta_pure (i := 1) (listed' := #[true, true, false, false, false, false, false, false, false, false, false, false, false, false]) rfl (by kernel_rfl) (by kernel_rfl) (by kernel_rfl) rfl rfl (o_nilCheck rfl) ?_
                  refine ta_pure (i := 2) (listed' := #[true, true, true, false, false, false, false, false, false, false, false, false, false, false]) rfl (by kernel_rfl) (by kernel_rfl) (by kernel_rfl) rfl rfl (o_fieldAddr (o := 3) Try.underlying46 rfl rfl sz42 rfl) ?_
                  refine ta_pure (i := 4) (listed' := #[true, true, true, false, true, false, false, false, false, false, false, false, false, false]) rfl (by kernel_rfl) (by kernel_rfl) (by kernel_rfl) rfl rfl (o_move rfl) ?_
                  refine ta_pure (i := 5) (listed' := #[true, true, true, false, true, true, false, false, false, false, false, false, false, false]) rfl (by kernel_rfl) (by kernel_rfl) (by kernel_rfl) rfl rfl (o_move rfl) ?_
                  refine ta_pure (i := 6) (listed' := #[true, true, true, false, true, true, true, false, false, false, false, false, false, false]) rfl (by kernel_rfl) (by kernel_rfl) (by kernel_rfl) rfl rfl (o_nilCheck rfl) ?_
                  refine ta_pure (i := 7) (listed' := #[true, true, true, false, true, true, true, true, false, false, false, false, false, false]) rfl (by kernel_rfl) (by kernel_rfl) (by kernel_rfl) rfl rfl (o_fieldAddr (o := 1) Try.underlying46 rfl rfl sz42 rfl) ?_
                  refine ta_pure (i := 9) (listed' := #[true, true, true, false, true, true, true, true, false, true, false, false, false, false]) rfl (by kernel_rfl) (by kernel_rfl) (by kernel_rfl) rfl rfl (o_move rfl) ?_
                  refine ta_two (i := 3) (j := 8) (by kernel_rfl) ?_ ?_
                  · skip
                    refine oa_v (i := 3) (listed' := #[true, true, true, true, true, true, true, true, false, true, false, false, false, false]) rfl rfl rfl (o_load p42 rfl (by repeat (first | exact has_here | exact has_pt | apply has_left)) rfl) ?_
                    refine ta_one (i := 8) (by kernel_rfl) ?_
                    refine oa_v (i := 8) (listed' := #[true, true, true, true, true, true, true, true, true, true, false, false, false, false]) rfl rfl rfl (o_load p42 rfl (by repeat (first | exact has_here | exact has_pt | apply has_left)) rfl) ?_
                    refine ta_pure (i := 10) (listed' := #[true, true, true, true, true, true, true, true, true, true, true, false, false, false]) rfl (by kernel_rfl) (by kernel_rfl) (by kernel_rfl) rfl rfl (o_indexAddrN1 (j := i) Try.underlying42 sz53 rfl rfl (by omega)) ?_
                    refine ta_one (i := 11) (by kernel_rfl) ?_
                    refine oa_v (i := 11) (listed' := #[true, true, true, true, true, true, true, true, true, true, true, true, false, false]) rfl rfl rfl (o_loadSl (k := 1) (i := i) (xs := wds P.seen) (Y := Sl 1 (.slice (some ⟨bs, os, none⟩) P.seen.length cs) P.seen.length (wds P.seen)) p53 rfl (by repeat (first | exact foc_here | apply foc_left)) (wds_at hi')) ?_
                    refine ta_pure (i := 12) (listed' := #[true, true, true, true, true, true, true, true, true, true, true, true, true, false]) rfl (by kernel_rfl) (by kernel_rfl) (by kernel_rfl) rfl rfl (o_indexAddrN1 (j := i) Try.underlying42 sz53 rfl rfl (by omega)) ?_
                    refine ta_one (i := 13) (by kernel_rfl) ?_
                    refine oa_u (i := 13) (listed' := #[true, true, true, true, true, true, true, true, true, true, true, true, true, true]) rfl rfl rfl (o_storeSl (v := .int .u64 ((P.seen[i] : Nat) : Int)) (i := i) sz53 rfl rfl rfl hi' (by repeat (first | exact foc_here | apply foc_left)) ) ?_
                    refine ta_done (by kernel_rfl) ?_
                    exact ⟨rfl, rfl, rfl, by rw [wds_set', hl1]⟩
                  · skip
                    refine oa_v (i := 8) (listed' := #[true, true, true, false, true, true, true, true, true, true, false, false, false, false]) rfl rfl rfl (o_load p42 rfl (by repeat (first | exact has_here | exact has_pt | apply has_left)) rfl) ?_
                    refine ta_pure (i := 10) (listed' := #[true, true, true, false, true, true, true, true, true, true, true, false, false, false]) rfl (by kernel_rfl) (by kernel_rfl) (by kernel_rfl) rfl rfl (o_indexAddrN1 (j := i) Try.underlying42 sz53 rfl rfl (by omega)) ?_
                    refine ta_two (i := 3) (j := 11) (by kernel_rfl) ?_ ?_
                    · skip
                      refine oa_v (i := 3) (listed' := #[true, true, true, true, true, true, true, true, true, true, true, false, false, false]) rfl rfl rfl (o_load p42 rfl (by repeat (first | exact has_here | exact has_pt | apply has_left)) rfl) ?_
                      refine ta_one (i := 11) (by kernel_rfl) ?_
                      refine oa_v (i := 11) (listed' := #[true, true, true, true, true, true, true, true, true, true, true, true, false, false]) rfl rfl rfl (o_loadSl (k := 1) (i := i) (xs := wds P.seen) (Y := Sl 1 (.slice (some ⟨bs, os, none⟩) P.seen.length cs) P.seen.length (wds P.seen)) p53 rfl (by repeat (first | exact foc_here | apply foc_left)) (wds_at hi')) ?_
                      refine ta_pure (i := 12) (listed' := #[true, true, true, true, true, true, true, true, true, true, true, true, true, false]) rfl (by kernel_rfl) (by kernel_rfl) (by kernel_rfl) rfl rfl (o_indexAddrN1 (j := i) Try.underlying42 sz53 rfl rfl (by omega)) ?_
                      refine ta_one (i := 13) (by kernel_rfl) ?_
                      refine oa_u (i := 13) (listed' := #[true, true, true, true, true, true, true, true, true, true, true, true, true, true]) rfl rfl rfl (o_storeSl (v := .int .u64 ((P.seen[i] : Nat) : Int)) (i := i) sz53 rfl rfl rfl hi' (by repeat (first | exact foc_here | apply foc_left)) ) ?_
                      refine ta_done (by kernel_rfl) ?_
                      exact ⟨rfl, rfl, rfl, by rw [wds_set', hl1]⟩
                    · skip
                      refine oa_v (i := 11) (listed' := #[true, true, true, false, true, true, true, true, true, true, true, true, false, false]) rfl rfl rfl (o_loadSl (k := 1) (i := i) (xs := wds P.seen) (Y := Sl 1 (.slice (some ⟨bs, os, none⟩) P.seen.length cs) P.seen.length (wds P.seen)) p53 rfl (by repeat (first | exact foc_here | apply foc_left)) (wds_at hi')) ?_
                      refine ta_one (i := 3) (by kernel_rfl) ?_
                      refine oa_v (i := 3) (listed' := #[true, true, true, true, true, true, true, true, true, true, true, true, false, false]) rfl rfl rfl (o_load p42 rfl (by repeat (first | exact has_here | exact has_pt | apply has_left)) rfl) ?_
                      refine ta_pure (i := 12) (listed' := #[true, true, true, true, true, true, true, true, true, true, true, true, true, false]) rfl (by kernel_rfl) (by kernel_rfl) (by kernel_rfl) rfl rfl (o_indexAddrN1 (j := i) Try.underlying42 sz53 rfl rfl (by omega)) ?_
                      refine ta_one (i := 13) (by kernel_rfl) ?_
                      refine oa_u (i := 13) (listed' := #[true, true, true, true, true, true, true, true, true, true, true, true, true, true]) rfl rfl rfl (o_storeSl (v := .int .u64 ((P.seen[i] : Nat) : Int)) (i := i) sz53 rfl rfl rfl hi' (by repeat (first | exact foc_here | apply foc_left)) ) ?_
                      refine ta_done (by kernel_rfl) ?_
                      exact ⟨rfl, rfl, rfl, by rw [wds_set', hl1]⟩
                · intro ρ A hI
                  obtain ⟨h0, h5, h8, rfl⟩ := hI
                  refine q_then_n ?_
                  refine tc_env (d := 0) h0 ?_
                  refine tc_env (d := 5) h5 ?_
                  refine tc_env (d := 8) h8 ?_
                  refine tc_reg ?_
                  refine tl_v rfl (o_move rfl) ?_
                  refine tl_v rfl (o_nilCheck rfl) ?_
                  refine tl_v rfl (o_fieldAddr (o := 4) Try.underlying46 rfl rfl sz44 rfl) ?_
                  refine tl_v rfl (o_load p44 rfl (by repeat (first | exact has_here | exact has_pt | apply has_left)) rfl) ?_
                  refine tl_v rfl (o_move rfl) ?_
                  refine tl_v rfl (o_indexAddrN1 (j := i) Try.underlying44 sz4 rfl rfl (by omega)) ?_
                  refine tl_u rfl (o_storeSl (v := .bool true) (i := i) sz4 rfl rfl rfl hi' (by repeat (first | exact foc_here | apply foc_left)) ) ?_
                  rw [bos_set, hs1]
                  refine tl_nil ?_
                  refine q_block_n (q_then_n ?_)
                  refine tc_reg ?_
                  refine tl_v rfl (o_move rfl) ?_
                  refine tl_v rfl (by first | exact o_addI rfl rfl (by omega) | exact o_add rfl rfl) ?_
                  refine tl_v rfl (o_assign rfl) ?_
                  refine tl_nil ?_
                  refine q_then_n ?_
                  exact ⟨_, by omega, i + 1, by omega, rfl, rfl, rfl, rfl, rfl⟩
              · simp only [decide_eq_false_iff_not] at h
                have hl1 : pm (lastF P.marks P.seen) i P.last = pm (lastF P.marks P.seen) (i + 1) P.last :=
                  (pm_same (lastF P.marks P.seen) hil (by unfold lastF; rw [if_neg (by omega)])).symm
                have hs1 : pm (sureF P.marks) i P.sure = pm (sureF P.marks) (i + 1) P.sure :=
                  (pm_same (sureF P.marks) his (by unfold sureF; rw [if_neg (by omega)])).symm
                refine tc_skip ?_
                refine q_block_n (q_then_n ?_)
                refine tc_reg ?_
                rw [hl1, hs1]
                refine tl_v rfl (o_move rfl) ?_
                refine tl_v rfl (by first | exact o_addI rfl rfl (by omega) | exact o_add rfl rfl) ?_
                refine tl_v rfl (o_assign rfl) ?_
                refine tl_nil ?_
                refine q_then_n ?_
                exact ⟨_, by omega, i + 1, by omega, rfl, rfl, rfl, rfl, rfl⟩
            · try simp only [decide_eq_true_eq, decide_eq_false_iff_not, Bool.not_eq_true', Bool.not_eq_false', Option.isNone_some, Option.isNone_none, Bool.not_true, Bool.not_false] at h
              refine tc_exit ?_
              refine q_then_e (q_then_e (q_block_x (q_then_n ?_)))
              refine tc_seq ?_
              refine tc_seq ?_
              refine tc_reg ?_
              refine tl_v rfl (o_assign rfl) ?_
              refine tl_nil ?_
              refine q_then_n ?_
              refine tc_block ?_
              refine tc_loop (fun j ρ A => ∃ i : Nat, i ≤ P.marks.length ∧ j = P.marks.length - i ∧ ρ 0 = .pointer (some ⟨p, 0, none⟩) ∧ ρ 9 = .int .i64 (i : Nat) ∧ A = F * Words hvs P.held * pt p (cl (pcs d (.slice (some ⟨bs, os, none⟩) P.seen.length cs) (.slice (some ⟨bh, oh, none⟩) P.seen.length ch) (.slice (some ⟨bl, ol, none⟩) P.seen.length cL) (.slice (some ⟨bu, ou, none⟩) P.seen.length cu) (.slice (some ⟨bm, om, none⟩) P.marks.length cm)) 46) * Sl 1 (.slice (some ⟨bs, os, none⟩) P.seen.length cs) P.seen.length (wds P.seen) * Sl 1 (.slice (some ⟨bh, oh, none⟩) P.seen.length ch) P.seen.length (hvs) * Sl 1 (.slice (some ⟨bl, ol, none⟩) P.seen.length cL) P.seen.length (wds (pm (lastF P.marks P.seen) P.seen.length P.last)) * Sl 1 (.slice (some ⟨bu, ou, none⟩) P.seen.length cu) P.seen.length (bos (pm (sureF P.marks) P.seen.length P.sure)) * Sl 1 (.slice (some ⟨bm, om, none⟩) P.marks.length cm) P.marks.length (ints (pm (fun _ _ => 0) i P.marks)) * Dev d P.s * pt b3 (cl [.int .i64 k, .int .i64 q, nv, .int .u64 (v : Nat), dv, kv, av] 76)) (m := P.marks.length) ?_ ?_
              · obtain rfl : i = P.seen.length := by omega
                exact ⟨0, by omega, rfl, rfl, rfl, by rw [pm_zero (fun _ _ => 0)]⟩
              · intro k ρ B hI
                obtain ⟨i, hi, rfl, h0, h9, rfl⟩ := hI
                refine tc_env (d := 0) h0 ?_
                refine tc_env (d := 9) h9 ?_
                refine tc_seq ?_
                refine tc_seq ?_
                refine tc_reg ?_
                refine tl_v rfl (o_move rfl) ?_
                refine tl_v rfl (o_move rfl) ?_
                refine tl_v rfl (o_nilCheck rfl) ?_
                refine tl_v rfl (o_fieldAddr (o := 5) Try.underlying46 rfl rfl sz37 rfl) ?_
                refine tl_v rfl (o_load p37 rfl (by repeat (first | exact has_here | exact has_pt | apply has_left)) rfl) ?_
                refine tl_v rfl (o_len Try.underlying37 rfl) ?_
                refine tl_v rfl (o_lss rfl rfl) ?_
                refine tl_nil ?_
                refine q_then_n ?_
                refine tc_cond rfl (fun h => ?_) (fun h => ?_)
                · simp only [decide_eq_true_eq] at h
                  have hi' : i < P.marks.length := by omega
                  refine tc_skip ?_
                  refine q_then_n ?_
                  refine tc_seq ?_
                  refine tc_block ?_
                  refine tc_reg ?_
                  refine tl_v rfl (o_move rfl) ?_
                  refine tl_v rfl (o_nilCheck rfl) ?_
                  refine tl_v rfl (o_fieldAddr (o := 5) Try.underlying46 rfl rfl sz37 rfl) ?_
                  refine tl_v rfl (o_load p37 rfl (by repeat (first | exact has_here | exact has_pt | apply has_left)) rfl) ?_
                  refine tl_v rfl (o_move rfl) ?_
                  refine tl_v rfl (o_indexAddrN1 (j := i) Try.underlying37 sz3 rfl rfl (by omega)) ?_
                  refine tl_u rfl (o_storeSl (v := .int .i64 0) (i := i) sz3 rfl rfl rfl hi' (by repeat (first | exact foc_here | apply foc_left)) ) ?_
                  refine tl_nil ?_
                  refine q_block_n (q_then_n ?_)
                  refine tc_reg ?_
                  refine tl_v rfl (o_move rfl) ?_
                  refine tl_v rfl (by first | exact o_addI rfl rfl (by omega) | exact o_add rfl rfl) ?_
                  refine tl_v rfl (o_assign rfl) ?_
                  refine tl_nil ?_
                  refine q_then_n ?_
                  exact ⟨_, by omega, i + 1, by omega, rfl, rfl, rfl, by rw [ints_set, pm_set (fun _ _ => 0) hi']⟩
                · try simp only [decide_eq_true_eq, decide_eq_false_iff_not, Bool.not_eq_true', Bool.not_eq_false', Option.isNone_some, Option.isNone_none, Bool.not_true, Bool.not_false] at h
                  refine tc_exit ?_
                  refine q_then_e (q_then_e (q_block_x (q_then_n ?_)))
                  refine tc_seq ?_
                  refine tc_reg ?_
                  refine tl_v rfl (o_move rfl) ?_
                  refine tl_v rfl (o_nilCheck rfl) ?_
                  refine tl_v rfl (o_fieldAddr (o := 0) Try.underlying46 rfl rfl sz41 rfl) ?_
                  refine tl_v rfl (o_load p41 rfl (by repeat (first | exact has_here | exact has_pt | apply has_left)) rfl) ?_
                  obtain rfl : i = P.marks.length := by omega
                  refine tl_eq (A' := F * Words hvs P.held * pt p (cl (pcs d (.slice (some ⟨bs, os, none⟩) P.seen.length cs) (.slice (some ⟨bh, oh, none⟩) P.seen.length ch) (.slice (some ⟨bl, ol, none⟩) P.seen.length cL) (.slice (some ⟨bu, ou, none⟩) P.seen.length cu) (.slice (some ⟨bm, om, none⟩) P.marks.length cm)) 46) * Sl 1 (.slice (some ⟨bs, os, none⟩) P.seen.length cs) P.seen.length (wds P.seen) * Sl 1 (.slice (some ⟨bh, oh, none⟩) P.seen.length ch) P.seen.length (hvs) * Sl 1 (.slice (some ⟨bl, ol, none⟩) P.seen.length cL) P.seen.length (wds (pm (lastF P.marks P.seen) P.seen.length P.last)) * Sl 1 (.slice (some ⟨bu, ou, none⟩) P.seen.length cu) P.seen.length (bos (pm (sureF P.marks) P.seen.length P.sure)) * Sl 1 (.slice (some ⟨bm, om, none⟩) P.marks.length cm) P.marks.length (ints (pm (fun _ _ => 0) P.marks.length P.marks)) * pt b3 (cl [.int .i64 k, .int .i64 q, nv, .int .u64 (v : Nat), dv, kv, av] 76) * Dev d P.s) (by ac_rfl) ?_
                  refine tl_c rfl (o_call bd47 rfl (Fence_f _ d P.s)) ?_
                  rintro _ _ ⟨rfl, rfl⟩
                  refine tl_v rfl (o_eqi rfl rfl) ?_
                  refine tl_v rfl (o_assign rfl) ?_
                  refine tl_nil ?_
                  refine q_then_n ?_
                  refine tc_ret ?_
                  refine q_block_r (q_then_r ?_)
                  have e : stepP k q v P = (decide ((fe P.s).1 = 0), { P with s := (fe P.s).2, last := pm (lastF P.marks P.seen) P.seen.length P.last, sure := pm (sureF P.marks) P.seen.length P.sure, marks := pm (fun _ _ => 0) P.marks.length P.marks }) := by
                    unfold stepP; rw [if_neg (by omega), if_neg (by omega), if_pos hk5]
                  refine ⟨.bool (decide ((fe P.s).1 = 0)), _, res1 rfl rfl, fun g w h => h.drop2, hvs, by rw [e], ?_⟩
                  rw [e, plC_eq]
                  simp only [pm_length]
        · (exfalso; first | (revert h; simp; done) | (revert h; simp; omega) | (simp at h; omega) | omega)

set_option maxRecDepth 20000 in
set_option maxHeartbeats 2000000 in
theorem play0_f (F : SP) (p d v : Nat) (k q : Int) (nv dv kv av sv hv lv uv mv : Value) (hvs : List Value) (P : PlS) (hP : WfP 1 P) (hv64 : v < 18446744073709551616) (hk0 : ¬ (k = 2 ∨ k = 3) ∧ ¬ k = 4 ∧ ¬ k = 5) :
    Fn Try.prog 45 #[.pointer (some ⟨p, 0, none⟩), .agg [.int .i64 k, .int .i64 q, nv, .int .u64 (v : Nat), dv, kv, av].toArray] (F * PlC p d sv hv lv uv mv hvs P) (fun r B => ∃ hvs', r = .bool (stepP k q v P).1 ∧ B = F * PlC p d sv hv lv uv mv hvs' (stepP k q v P).2) := by
  have hE := @fn_enterW Try.prog 45 Try.f45 _ [.pointer (some ⟨p, 0, none⟩), .agg [.int .i64 k, .int .i64 q, nv, .int .u64 (v : Nat), dv, kv, av].toArray] (F * PlC p d sv hv lv uv mv hvs P) (fun r B => ∃ hvs', r = .bool (stepP k q v P).1 ∧ B = F * PlC p d sv hv lv uv mv hvs' (stepP k q v P).2) _ Try.func45 rfl Try.ntmps45 (by simp)
  refine hE ?_
  clear hE
  have hw0 : 0 < P.seen.length := by have := hP.seen; have := hP.pos; omega
  have hseen := hP.seen
  have htop := hP.top
  have hpos := hP.pos
  have hlastl := hP.last
  have hsurel := hP.sure
  have hheldl := hP.held
  have hlsl := hP.ls
  have hwlt := wi_lt (p := q) hw0
  have hw8 : wi q P.seen.length / 8 < P.marks.length := by omega
  refine tc_eq plC_eq ?_
  refine tc_have (fun _ _ h => Foc.have_sl1 (k := 1) (n := P.seen.length) (v := sv) (xs := wds P.seen) (Y := Sl 1 sv P.seen.length (wds P.seen)) (by repeat (first | exact foc_here | apply foc_left)) (by omega) h) fun ⟨bs, os, cs, hsv, _, _⟩ => ?_
  refine tc_have (fun _ _ h => Foc.have_sl1 (k := 1) (n := P.seen.length) (v := hv) (xs := hvs) (Y := Sl 1 hv P.seen.length hvs) (by repeat (first | exact foc_here | apply foc_left)) (by omega) h) fun ⟨bh, oh, ch, hhv, _, hvl⟩ => ?_
  refine tc_have (fun _ _ h => Foc.have_sl1 (k := 1) (n := P.seen.length) (v := lv) (xs := wds P.last) (Y := Sl 1 lv P.seen.length (wds P.last)) (by repeat (first | exact foc_here | apply foc_left)) (by omega) h) fun ⟨bl, ol, cL, hlv, _, _⟩ => ?_
  refine tc_have (fun _ _ h => Foc.have_sl1 (k := 1) (n := P.seen.length) (v := uv) (xs := bos P.sure) (Y := Sl 1 uv P.seen.length (bos P.sure)) (by repeat (first | exact foc_here | apply foc_left)) (by omega) h) fun ⟨bu, ou, cu, huv, _, _⟩ => ?_
  refine tc_have (fun _ _ h => Foc.have_sl1 (k := 1) (n := P.marks.length) (v := mv) (xs := ints P.marks) (Y := Sl 1 mv P.marks.length (ints P.marks)) (by repeat (first | exact foc_here | apply foc_left)) (by omega) h) fun ⟨bm, om, cm, hmv, _, _⟩ => ?_
  subst hsv hhv hlv huv hmv
  have hwh : wi q P.seen.length < P.held.length := by omega
  have hwv : wi q P.seen.length < hvs.length := by omega
  obtain ⟨R, hW1, hW2⟩ := words_get (vs := hvs) (ls := P.held) (i := wi q P.seen.length) (by omega) hwh
  have hW3 : ∀ u, Words (hvs.set (wi q P.seen.length) u) (P.held.set (wi q P.seen.length) (P.held[wi q P.seen.length] ++ [v])) = R * Sl 1 u (P.held[wi q P.seen.length].length + 1) (wds P.held[wi q P.seen.length] ++ [.int .u64 (v : Nat)]) := fun u => by
    rw [hW2, List.length_append]; unfold wds; rw [List.map_append]; rfl
  have hhroom := hP.hroom _ (List.getElem_mem hwh)
  refine tc_seq ?_
  refine tc_reg ?_
  refine tl_x rfl (o_box rfl rfl) ?_
  rintro _ _ ⟨b3, rfl, rfl⟩
  refine tl_v rfl (o_assign rfl) ?_
  refine tl_nil ?_
  refine q_then_n ?_
  refine tc_seq ?_
  refine tc_reg ?_
  refine tl_v rfl (o_move rfl) ?_
  refine tl_v rfl (o_nilCheck rfl) ?_
  refine tl_v rfl (o_fieldAddr (o := 1) Try.underlying46 rfl rfl sz42 rfl) ?_
  refine tl_v rfl (o_load p42 rfl (by repeat (first | exact has_here | exact has_pt | apply has_left)) rfl) ?_
  refine tl_v rfl (o_len Try.underlying42 rfl) ?_
  refine tl_v rfl (o_assign rfl) ?_
  refine tl_nil ?_
  refine q_then_n ?_
  refine tc_seq ?_
  refine tc_reg ?_
  refine tl_v rfl (o_fieldAddr (o := 1) Try.underlying76 rfl rfl sz3 rfl) ?_
  refine tl_v rfl (o_load p3 rfl (by repeat (first | exact has_here | exact has_pt | apply has_left)) rfl) ?_
  refine tl_v rfl (o_move rfl) ?_
  refine tl_c rfl (o_call bd37 rfl (within_f _ q (P.seen.length : Nat) (by omega))) ?_
  rintro _ _ ⟨rfl, rfl⟩
  refine tl_env (d := 18) (v := .int .i64 ((wi q P.seen.length : Nat) : Int)) (by show Value.int .i64 (q % (P.seen.length : Int)) = _; rw [wi_cast hw0]) ?_
  refine tl_v rfl (o_assign rfl) ?_
  refine tl_nil ?_
  refine q_then_n ?_
  refine tc_seq ?_
  refine tc_reg ?_
  refine tl_v rfl (o_move rfl) ?_
  refine tl_v rfl (o_quoN (a := wi q P.seen.length) (b := 8) rfl rfl (by omega)) ?_
  refine tl_v rfl (o_assign rfl) ?_
  refine tl_nil ?_
  refine q_then_n ?_
  refine tc_seq ?_
  refine tc_seq ?_
  refine tc_reg ?_
  refine tl_v rfl (o_fieldAddr (o := 0) Try.underlying76 rfl rfl sz3 rfl) ?_
  refine tl_v rfl (o_load p3 rfl (by repeat (first | exact has_here | exact has_pt | apply has_left)) rfl) ?_
  refine tl_nil ?_
  refine q_then_n ?_
  refine tc_block ?_
  refine tc_seq ?_
  refine tc_seq ?_
  refine tc_reg ?_
  refine tl_v rfl (o_eqi rfl rfl) ?_
  refine tl_v rfl (o_assign rfl) ?_
  refine tl_nil ?_
  refine q_then_n ?_
  refine tc_cond rfl (fun h => ?_) (fun h => ?_)
  · (exfalso; first | (revert h; simp; done) | (revert h; simp; omega) | (simp at h; omega) | omega)
  · try simp only [decide_eq_true_eq, decide_eq_false_iff_not, Bool.not_eq_true', Bool.not_eq_false', Option.isNone_some, Option.isNone_none, Bool.not_true, Bool.not_false] at h
    refine tc_reg ?_
    refine tl_v rfl (o_eqi rfl rfl) ?_
    refine tl_v rfl (o_assign rfl) ?_
    refine tl_nil ?_
    refine q_then_n ?_
    refine tc_cond rfl (fun h => ?_) (fun h => ?_)
    · (exfalso; first | (revert h; simp; done) | (revert h; simp; omega) | (simp at h; omega) | omega)
    · try simp only [decide_eq_true_eq, decide_eq_false_iff_not, Bool.not_eq_true', Bool.not_eq_false', Option.isNone_some, Option.isNone_none, Bool.not_true, Bool.not_false] at h
      refine tc_seq ?_
      refine tc_reg ?_
      refine tl_v rfl (o_eqi rfl rfl) ?_
      refine tl_v rfl (o_assign rfl) ?_
      refine tl_nil ?_
      refine q_then_n ?_
      refine tc_cond rfl (fun h => ?_) (fun h => ?_)
      · (exfalso; first | (revert h; simp; done) | (revert h; simp; omega) | (simp at h; omega) | omega)
      · try simp only [decide_eq_true_eq, decide_eq_false_iff_not, Bool.not_eq_true', Bool.not_eq_false', Option.isNone_some, Option.isNone_none, Bool.not_true, Bool.not_false] at h
        refine tc_seq ?_
        refine tc_reg ?_
        refine tl_v rfl (o_eqi rfl rfl) ?_
        refine tl_v rfl (o_assign rfl) ?_
        refine tl_nil ?_
        refine q_then_n ?_
        refine tc_cond rfl (fun h => ?_) (fun h => ?_)
        · (exfalso; first | (revert h; simp; done) | (revert h; simp; omega) | (simp at h; omega) | omega)
        · try simp only [decide_eq_true_eq, decide_eq_false_iff_not, Bool.not_eq_true', Bool.not_eq_false', Option.isNone_some, Option.isNone_none, Bool.not_true, Bool.not_false] at h
          refine tc_skip ?_
          refine q_block_n (q_then_n ?_)
          refine tc_seq ?_
          refine tc_reg ?_
          refine tl_v rfl (o_assign rfl) ?_
          refine tl_nil ?_
          refine q_then_n ?_
          refine tc_ret ?_
          have e : stepP k q v P = (true, P) := by unfold stepP; rw [if_neg hk0.1, if_neg hk0.2.1, if_neg hk0.2.2]
          refine ⟨.bool true, _, res1 rfl rfl, fun g w h => h.left, hvs, by rw [e], ?_⟩
          rw [e, plC_eq]


theorem play_f (F : SP) (p d v : Nat) (k q : Int) (nv dv kv av sv hv lv uv mv : Value) (hvs : List Value) (P : PlS) (hP : WfP 1 P) (hv64 : v < 18446744073709551616) :
    Fn Try.prog 45 #[.pointer (some ⟨p, 0, none⟩), .agg [.int .i64 k, .int .i64 q, nv, .int .u64 (v : Nat), dv, kv, av].toArray] (F * PlC p d sv hv lv uv mv hvs P) (fun r B => ∃ hvs', r = .bool (stepP k q v P).1 ∧ B = F * PlC p d sv hv lv uv mv hvs' (stepP k q v P).2) := by
  by_cases h2 : k = 2
  · exact play2_f F p d v k q nv dv kv av sv hv lv uv mv hvs P hP hv64 h2
  by_cases h3 : k = 3
  · exact play3_f F p d v k q nv dv kv av sv hv lv uv mv hvs P hP hv64 h3
  by_cases h4 : k = 4
  · exact play4_f F p d v k q nv dv kv av sv hv lv uv mv hvs P hP hv64 h4
  by_cases h5 : k = 5
  · exact play5_f F p d v k q nv dv kv av sv hv lv uv mv hvs P hP hv64 h5
  exact play0_f F p d v k q nv dv kv av sv hv lv uv mv hvs P hP hv64 ⟨by omega, h4, h5⟩

end Go.Vl
