/- What the row rests on, part 5: a calculus of assertions, walks of functions over it, and plain laws. Conditions: none. -/
import Derived.Deep.QuietTactic
import Derived.BigQuiet
import Derived.WalkKit
import Derived.Test.YtndfopmdkcnkgaaProg
import Derived.OrdersHeld
import Derived.Laws.BytesArg
import Derived.RangeFuncRecord
import Derived.TacticsIn
import Derived.Deep.Slices
import Derived.OpenShut
import Derived.ChangeArms
import Derived.SizedLaws
import Derived.ChangeSame
import Derived.Test.YtndfopmdkcnkgaaRows
import Derived.Sort.QuietThIn
import Derived.Test.YtndfopmdkcnkgaaMg4
set_option linter.unusedVariables false
set_option linter.unusedSimpArgs false
namespace Go.Vl
open Go Go.Proofs
theorem wfd_on {s : DevS} (h : WfD s) : WfD { s with off := false } := ⟨h.pos, h.top, h.line, h.arms, h.after, h.keeps⟩
theorem img_on11 (s : DevS) : imgS { s with off := false } = imgS s := rfl
theorem whole_w {X : List (Int × Int)} {s : DevS} (hw : WfD s) (hO : s.off = false) (hc : Cln s) (hlen : s.ls.length = 16) (hi : imgS s = mdI) (hl : X.all (mayX 1024 128 384) = true) (hN : needN X ≤ 320) :
    ∃ e s2, writeS 128 384 X s = (e, s2) ∧ (e = 0 ∨ e = 5) ∧ s2.off = decide (e = 5) ∧ WfD s2 ∧ Cln s2 ∧ s2.ls.length = 16 ∧ Out 128 512 (imgS s2) mdI ∧ (recordsS 128 384 { s2 with off := false } = (oldsL mdI X, 0) ∨ (e = 5 ∧ recordsS 128 384 { s2 with off := false } = ([], 0))) := by
  have hlw : LogW (s.ls.length * 64) 128 384 := by rw [hlen]; exact ⟨by decide, by decide, by decide, by decide, by decide⟩
  have h0 : nm (((imgS s).drop 128).take 8) = 0 := by rw [hi, mdI_word]; decide
  have hself : s = { s with off := false } := by cases s; simp only at hO; subst hO; rfl
  by_cases hne : X = []
  · subst hne
    refine ⟨0, s, ?_, .inl rfl, by rw [hO]; decide, hw, hc, hlen, by rw [hi]; exact Out.refl _ _ _, .inl (by rw [← hself]; exact records_none hO hlw h0)⟩
    unfold writeS
    rw [if_neg (by rw [hO]; decide), word_in hO (by decide) (by rw [hlen]; decide), h0, if_neg (by simp), if_neg (by simp)]
    rw [if_neg (by show ¬ ((needF [] 0).2 ≠ 0 ∨ _ < (needF [] 0).1); simp [needF]), if_pos rfl]
  · obtain ⟨e, s1, g1, g2, g3, g4, g5⟩ := write_loss (l := X) hw hO hc hlw (by rw [hlen]; exact hl) hne hN h0 (room_cln hc (by omega))
    rw [hi] at g5
    rw [hlen] at g3
    have hlog := wr_log (sz := 384) (l := X) (by decide) (by decide) hl hN
    have hrec : ∀ {t : DevS}, WfD t → t.ls.length = 16 → imgS t = wrI 128 mdI X → recordsS 128 384 { t with off := false } = (oldsL mdI X, 0) := fun {t} h1 h2 h3 => by
      have h4 : imgS { t with off := false } = wrI 128 mdI X := h3
      exact log_records (by decide) (by decide) (by decide) hl hN (wfd_on h1) rfl h2 rfl (by rw [h4]; exact hlog.1) (by rw [h4]; exact hlog.2.1)
    rcases g5 with ⟨a1, a2, a3⟩ | ⟨a1, a2, a3⟩
    · subst a1
      exact ⟨0, s1, g1, .inl rfl, by rw [a2]; decide, g2, g4, g3, by rw [a3]; exact hlog.2.2.2, .inl (hrec g2 g3 a3)⟩
    · subst a1
      rcases a3 with a3 | a3
      · refine ⟨5, s1, g1, .inr rfl, by rw [a2]; decide, g2, g4, g3, fun i hi => a3 i (by omega), .inr ⟨rfl, ?_⟩⟩
        refine records_none rfl (by show LogW (s1.ls.length * 64) 128 384; rw [g3]; exact ⟨by decide, by decide, by decide, by decide, by decide⟩) ?_
        show nm (((imgS s1).drop 128).take 8) = 0
        rw [out_sub a3 (by omega), mdI_word]; decide
      · exact ⟨5, s1, g1, .inr rfl, by rw [a2]; decide, g2, g4, g3, by rw [a3]; exact hlog.2.2.2, .inl (hrec g2 g3 a3)⟩
def kpR (kp : List Int) (i : Nat) : List Int := (kp.take i).map fun x => x % 1000
theorem kpR_zero (kp : List Int) : kpR kp 0 = [] := rfl
theorem kpR_succ {kp : List Int} {i : Nat} (h : i < kp.length) : kpR kp (i + 1) = kpR kp i ++ [kp[i] % 1000] := by
  unfold kpR; rw [List.take_succ_eq_append_getElem h, List.map_append]; rfl
theorem kpR_len {kp : List Int} {i : Nat} (h : i ≤ kp.length) : (kpR kp i).length = i := by unfold kpR; rw [List.length_map, List.length_take]; omega
theorem kpR_b {kp : List Int} {i : Nat} : ∀ x ∈ kpR kp i, 0 ≤ x ∧ x < 1000 := fun x hx => by
  obtain ⟨y, _, rfl⟩ := List.mem_map.1 hx; omega
theorem arm_one {af : Int} {k : List Int} {s : DevS} (hO : s.off = false) (ha : s.arms = []) (h1 : 1 ≤ af) (hk : ∀ x ∈ k, 0 ≤ x ∧ x < 1000) : armS [(af, k)] s = (0, { s with arms := [(af, k)] }) := by
  have hlow : lowB k = false := by unfold lowB; rw [List.any_eq_false]; intro x hx; have := hk x hx; simp; omega
  unfold armS
  rw [if_neg (by rw [hO]; decide), if_neg (by simp [badA, hlow]; omega), if_neg (by rw [ha]; show ¬ 64 < 1 + 0; decide), ha]; rfl
theorem arm_facts {af : Int} {k : List Int} (h1 : 1 ≤ af ∧ af ≤ 9223372036854775807) (hk : ∀ x ∈ k, 0 ≤ x ∧ x < 1000) (hl : k.length ≤ 17592186044416) : ∃ sA, armS [(af, k)] mds = (0, sA) ∧ WfD sA ∧ sA.off = false ∧ Cln sA ∧ sA.ls.length = 16 ∧ imgS sA = mdI :=
  ⟨{ mds with arms := [(af, k)] }, arm_one rfl rfl h1.1 hk, ⟨mds_wf.pos, mds_wf.top, mds_wf.line, by show 1 ≤ 64; decide, fun z hz => by rw [List.mem_singleton.1 hz]; exact h1, fun z hz => by rw [List.mem_singleton.1 hz]; exact ⟨hl, fun k hk' => by have := hk k hk'; omega⟩⟩, rfl, mds_cln, mds_len, mds_img⟩
theorem rda_one {A : SP} {b a : Option Addr} {n c : Nat} {af : Int} {k : List Int} (h1 : Rs A b [.int .i64 af, .slice a n c]) (h2 : Rs A a (ints k)) (hn : k.length = n) (hc : n ≤ c) : RdA A b [.slice a n c] [(af, k)] :=
  ⟨h1, rfl, fun i hi => by
    match i, hi with
    | 0, _ => exact ⟨a, c, by rw [← hn]; rfl, by show k.length ≤ c; omega, h2⟩⟩
theorem ints_nil : ints [] = [] := rfl
theorem image_w {A R : SP} {C : SP → SP} {d : Nat} {s : DevS} (I : List Nat) (hl : s.ls.length = 16) (hi : imgS s = I) (hc : Ct A (Dev d s) R C := by repeat (first | with_reducible exact ct_here | apply ct_left)) : Fn Try.prog 23 #[.pointer (some ⟨d, 0, none⟩)] A (fun r B => ∃ a c, r = .slice a 1024 c ∧ 1024 ≤ c ∧ B = A * Sl 1 (.slice a 1024 c) 1024 (bys I)) := by
  have h := Image_c hc
  rw [hl, hi] at h
  exact h
theorem out_take {a b n : Nat} {I J : List Nat} (h : Out a b I J) (hn : n ≤ a) : I.take n = J.take n := by
  have := out_sub (p := 0) (m := n) h (.inl (by omega))
  simpa using this
theorem eq_take {A : SP} {a : Option Addr} {n : Nat} {I : List Nat} (h : Rs A a (bys I)) : Rs A a (bys (I.take n)) := by
  have h2 := h.sub n
  rwa [bys_takeG] at h2
attribute [local irreducible] crk crL crc Sl pt ro Dev imgS recS readS recsF rdW rdO rkT Parts rvl recordsS mdI mdK rise mds writeS rollS clearS oldsL kcl xcl lensX lst brL brX fiveX kpR
set_option maxRecDepth 20000 in
set_option maxHeartbeats 4000000 in
theorem UlogWhole_f (F : SP) {ae ak : Option Addr} {ne ce nk ck : Nat} {es : List (Int × Int)} {v1 v2 v3 : Value} {x : Int} {kp : List Int} (hr : Rs F ae (xcl es)) (hm : es.length = ne) (hX : ∀ x ∈ es, XW x) (hne : ne ≤ 8796093022208) (hx : -9223372036854775808 ≤ x ∧ x ≤ 9223372036854775807) (hk : Rs F ak (ints kp)) (hkm : kp.length = nk) (hkb : ∀ x ∈ kp, -9223372036854775808 ≤ x ∧ x ≤ 9223372036854775807) (hnk : nk ≤ 17592186043904) :
    Fn Try.prog 7 #[.agg #[.slice ae ne ce, v1, v2, v3], .int .i64 x, .slice ak nk ck] (F) (fun r B => r = .bool true ∧ B = F) := by
  refine fn_enterW (args := [.agg #[.slice ae ne ce, v1, v2, v3], .int .i64 x, .slice ak nk ck]) Try.func7 rfl Try.ntmps7 (by simp) ?_; refine sr ?_; refine tl_x rfl (o_box rfl rfl) ?_; rintro _ _ ⟨b3, rfl, rfl⟩; refine tla ?_; refine nq ?_; refine tc_seq ?_; refine sr ?_; refine tl_c rfl (o_call bd19 rfl (awake11_c)) ?_; rintro _ _ ⟨rfl, rfl⟩; refine tv (o_not rfl) ?_; refine nq ?_; refine tc_cond rfl (fun h => ?_) (fun h => ?_)
  · exfalso; simp at h
  · try simp only [lv1, lv2, lv3, lv4, lv5, lv6, Bool.not_true, Bool.not_false] at h
    refine tc_skip ?_; refine q_then_n ?_; refine sr ?_; refine tl_c rfl (o_call bd21 rfl (made_c (sz := 384))) ?_; rintro _ _ ⟨d, bl, rfl, rfl⟩; refine tlm ?_; refine tv (o_extract rfl rfl) ?_; refine tv (o_extract rfl rfl) ?_; refine tv (o_extract rfl rfl) ?_; refine tla ?_; refine tla ?_; refine tla ?_; refine nq ?_; refine tc_seq ?_; refine sr ?_; refine tlm ?_; refine tv (o_not rfl) ?_; refine nq ?_; refine tc_cond rfl (fun h => ?_) (fun h => ?_)
    · exfalso; simp at h
    · try simp only [lv1, lv2, lv3, lv4, lv5, lv6, Bool.not_true, Bool.not_false] at h
      refine tc_skip ?_; refine q_then_n ?_; refine sr ?_; refine tv (o_loadN (vs := [.slice ae ne ce, v1, v2, v3]) a56 sz56 rfl (by repeat (first | with_reducible exact has_here | with_reducible exact has_pt | apply has_left)) (by show 4 ≤ 4; decide) rfl) ?_; refine tl_c rfl (o_call bd22 rfl (brought_c (es := es) (hr := (by repeat (first | assumption | with_reducible exact rs_sl | with_reducible exact rs_pt0 | apply Rs.left))))) ?_; rintro _ _ ⟨n28, a28, c28, rfl, hc28, hn28, hm28, rfl⟩; refine tla ?_; refine nq ?_; refine sr ?_; refine tlm ?_; refine tl_c rfl (o_call bd23 rfl (image_w (s := mds) mdI mds_len mds_img)) ?_; rintro _ _ ⟨a30, c30, rfl, hc30, rfl⟩; refine tla ?_; refine nq ?_; refine sr ?_; refine tlm ?_; refine tl_c rfl (o_call bd13 rfl (within11_c (i := x) (n := 120))) ?_; rintro _ _ ⟨rfl, rfl⟩; refine tv (o_addI rfl rfl (by omega)) ?_; refine tv (o_bS (l := [_, _]) (pv_cons (by conv => lhs; whnf) pv_nil) Try.underlying78 z78 (pl78 Try.underlying78) rfl) ?_; refine tl_x rfl (o_alloc z78 rfl) ?_; rintro _ _ ⟨b12, rfl, rfl⟩; refine tl_u rfl (o_stUN (l' := [.int .i64 (1 + x % 120), .slice none 0 0]) rfl (by repeat (first | with_reducible exact upd_here | with_reducible exact upd_pt | apply upd_left)) sz78 rfl rfl rfl (by show 2 ≤ 2; decide) rfl) ?_
      refine nq ?_; refine tc_seq ?_; refine sr ?_; refine tla ?_; refine nq ?_; refine tc_block ?_; refine tc_pre (A' := F * pt b3 (cl [.slice ae ne ce, v1, v2, v3] 56) * Dev d mds * pt bl (cl (lcs11 d 128 384) 52) * Sl 2 (.slice a28 n28 c28) n28 (xcl (brL es n28)) * Sl 1 (.slice a30 1024 c30) 1024 (bys mdI) * pt b12 (cl [.int .i64 (1 + x % 120), .slice none 0 0] 78) * Sl 1 (.slice none 0 0) 0 (ints (kpR kp 0))) (fun _ _ h => by rw [kpR_zero, ints_nil]; exact sl_nil h) ?_; refine tc_loop (fun kk ρ BB => ∃ (i : Nat) (a : Option Addr) (c : Nat), (i ≤ nk) ∧ (i ≤ c) ∧ kk = nk - i ∧ ρ 13 = .int .i64 (i : Nat) ∧ ρ 2 = .slice ak nk ck ∧ ρ 7 = .pointer (some ⟨d, 0, none⟩) ∧ ρ 8 = .pointer (some ⟨bl, 0, none⟩) ∧ ρ 10 = .slice a28 n28 c28 ∧ ρ 11 = .slice a30 1024 c30 ∧ ρ 12 = .pointer (some ⟨b12, 0, none⟩) ∧ BB = F * pt b3 (cl [.slice ae ne ce, v1, v2, v3] 56) * Dev d mds * pt bl (cl (lcs11 d 128 384) 52) * Sl 2 (.slice a28 n28 c28) n28 (xcl (brL es n28)) * Sl 1 (.slice a30 1024 c30) 1024 (bys mdI) * pt b12 (cl [.int .i64 (1 + x % 120), .slice a i c] 78) * Sl 1 (.slice a i c) i (ints (kpR kp i))) (m := nk - (0)) ?_ ?_
      · exact ⟨0, none, 0, by omega, by omega, rfl, rfl, rfl, rfl, rfl, rfl, rfl, rfl, rfl⟩
      · intro k ρ B hI
        obtain ⟨i, a, c, hp0, hp1, hkk1, hE13, hE2, hE7, hE8, hE10, hE11, hE12, rfl⟩ := hI
        refine tc_env (d := 13) hE13 ?_; refine tc_env (d := 2) hE2 ?_; refine tc_env (d := 7) hE7 ?_; refine tc_env (d := 8) hE8 ?_; refine tc_env (d := 10) hE10 ?_; refine tc_env (d := 11) hE11 ?_; refine tc_env (d := 12) hE12 ?_
        clear hE13 hE2 hE7 hE8 hE10 hE11 hE12
        refine tc_seq ?_; refine sr ?_; refine tlm ?_; refine tlm ?_; refine tv (o_len Try.underlying22 rfl) ?_; refine tv (o_lss rfl rfl) ?_; refine nq ?_; refine tc_cond rfl (fun h => ?_) (fun h => ?_)
        · have hi : i < kp.length := by first | omega | (simp at h; omega)
          obtain ⟨y, hy⟩ : ∃ y, kp[i] = y := ⟨_, rfl⟩
          have hyb := hkb y (hy ▸ List.getElem_mem hi)
          refine tc_skip ?_; refine q_then_n ?_; refine tc_seq ?_; refine tc_block ?_; refine tc_regh (S := F) mo (by repeat (first | with_reducible exact dr_refl | apply dr_keep | apply dr_drop)) ?_
          show TH _ _ _ _ _ 11 #[ff,ff,ff,ff,ff,ff,ff,ff,ff,ff,ff] _ _
          refine th_take (i := 0) (listed' := #[tt,ff,ff,ff,ff,ff,ff,ff,ff,ff,ff]) rfl (by kernel_rfl) (by kernel_rfl) (by kernel_rfl) rfl rfl (o_fieldAddr (o := 1) Try.underlying78 rfl rfl sz22 rfl) ?_; refine th_take (i := 2) (listed' := #[tt,ff,tt,ff,ff,ff,ff,ff,ff,ff,ff]) rfl (by kernel_rfl) (by kernel_rfl) (by kernel_rfl) rfl rfl (o_move (by conv => lhs; whnf)) ?_; refine th_take (i := 3) (listed' := #[tt,ff,tt,tt,ff,ff,ff,ff,ff,ff,ff]) rfl (by kernel_rfl) (by kernel_rfl) (by kernel_rfl) rfl rfl (o_move (by conv => lhs; whnf)) ?_; refine th_take (i := 4) (listed' := #[tt,ff,tt,tt,tt,ff,ff,ff,ff,ff,ff]) rfl (by kernel_rfl) (by kernel_rfl) (by kernel_rfl) rfl rfl (o_ixP1 (a := ak) Try.underlying22 sz3 rfl rfl (by omega) (nn_rs (xs := ints kp) (by repeat (first | assumption | with_reducible exact rs_sl | with_reducible exact rs_pt0 | apply Rs.left)) (by rw [ints_length]; omega))) ?_; refine th_take (i := 5) (listed' := #[tt,ff,tt,tt,tt,tt,ff,ff,ff,ff,ff]) rfl (by kernel_rfl) (by kernel_rfl) (by kernel_rfl) rfl rfl (o_ldP (a := ak) (xs := ints kp) p3 rfl (by repeat (first | assumption | with_reducible exact rs_sl | with_reducible exact rs_pt0 | apply Rs.left)) (ints_at hi)) ?_; refine th_env (d := 46) (v := .int .i64 y) (by show Value.int .i64 kp[i] = _; rw [hy]) ?_; refine th_two (i := 1) (j := 6) (by kernel_rfl) ?_ ?_
          · skip
            refine oh_v (i := 1) (listed' := #[tt,tt,tt,tt,tt,tt,ff,ff,ff,ff,ff]) rfl rfl rfl (by first | exact o_load p22 rfl (by repeat (first | with_reducible exact has_here | with_reducible exact has_pt | apply has_left)) rfl | exact o_loadC p22 rfl (by assumption)) ?_; refine th_one (i := 6) (by kernel_rfl) ?_; refine oh_c (i := 6) (listed' := #[tt,tt,tt,tt,tt,tt,tt,ff,ff,ff,ff]) rfl rfl rfl (o_call bd13 rfl (within11_c (i := y) (n := 1000))) ?_; rintro _ _ ⟨rfl, rfl⟩; refine ⟨by repeat (first | with_reducible exact dr_refl | apply dr_keep | apply dr_drop), ?_⟩; refine th_one (i := 7) (by kernel_rfl) ?_; refine oh_x (i := 7) (listed' := #[tt,tt,tt,tt,tt,tt,tt,tt,ff,ff,ff]) rfl rfl rfl (o_buildSliceL (k := 1) (vs := ints [y % 1000]) (l := ints [y % 1000]) Try.underlying22 sz3 z3 rfl rfl (by decide) (by decide) (by intro v hv; simp only [ints, i64, List.map_cons, List.map_nil, List.mem_cons, List.not_mem_nil, or_false] at hv; rcases hv with rfl; rfl) rfl) ?_; rintro _ _ ⟨b48, rfl, rfl⟩; refine ⟨by repeat (first | with_reducible exact dr_refl | apply dr_keep | apply dr_drop), ?_⟩; refine th_one (i := 8) (by kernel_rfl) ?_; refine oh_x (i := 8) (listed' := #[tt,tt,tt,tt,tt,tt,tt,tt,tt,ff,ff]) rfl rfl rfl (o_apB Try.underlying22 Try.underlying22 sz3 by3 z3 rfl (by decide) (by decide) rfl rfl rfl (by repeat (first | with_reducible exact ct_here | apply ct_left)) rfl rfl (by omega) (show _ = ints (kpR kp (i + 1)) by rw [kpR_succ hi, hy]; simp [ints])) ?_
            rintro _ _ ⟨a49, c49, rfl, hc49, rfl⟩; refine ⟨by repeat (first | with_reducible exact dr_refl | apply dr_keep | apply dr_drop), ?_⟩; refine th_take (i := 9) (listed' := #[tt,tt,tt,tt,tt,tt,tt,tt,tt,tt,ff]) rfl (by kernel_rfl) (by kernel_rfl) (by kernel_rfl) rfl rfl (o_fieldAddr (o := 1) Try.underlying78 rfl rfl sz22 rfl) ?_; refine th_one (i := 10) (by kernel_rfl) ?_; refine oh_u (i := 10) (listed' := #[tt,tt,tt,tt,tt,tt,tt,tt,tt,tt,tt]) rfl rfl rfl (o_stU (l' := [.int .i64 (1 + x % 120), .slice a49 (i + 1) c49]) rfl (by repeat (first | with_reducible exact upd_here | with_reducible exact upd_pt | apply upd_left)) sz22 rfl rfl (by show 1 < 2; decide) rfl) (by repeat (first | with_reducible exact dr_refl | apply dr_keep | apply dr_drop)) ?_; refine th_done (by kernel_rfl) ?_; refine q_block_n (q_then_n ?_); refine tc_reg ?_; refine tlm ?_; refine tv (by first | exact o_addI rfl rfl (by omega) | exact o_add rfl rfl) ?_; refine tla ?_; refine nq ?_; exact ⟨_, by omega, i + 1, _, _, by omega, hc49, rfl, rfl, rfl, rfl, rfl, rfl, rfl, rfl, rfl⟩
          · skip
            refine oh_c (i := 6) (listed' := #[tt,ff,tt,tt,tt,tt,tt,ff,ff,ff,ff]) rfl rfl rfl (o_call bd13 rfl (within11_c (i := y) (n := 1000))) ?_; rintro _ _ ⟨rfl, rfl⟩; refine ⟨by repeat (first | with_reducible exact dr_refl | apply dr_keep | apply dr_drop), ?_⟩; refine th_two (i := 1) (j := 7) (by kernel_rfl) ?_ ?_
            · skip
              refine oh_v (i := 1) (listed' := #[tt,tt,tt,tt,tt,tt,tt,ff,ff,ff,ff]) rfl rfl rfl (by first | exact o_load p22 rfl (by repeat (first | with_reducible exact has_here | with_reducible exact has_pt | apply has_left)) rfl | exact o_loadC p22 rfl (by assumption)) ?_; refine th_one (i := 7) (by kernel_rfl) ?_; refine oh_x (i := 7) (listed' := #[tt,tt,tt,tt,tt,tt,tt,tt,ff,ff,ff]) rfl rfl rfl (o_buildSliceL (k := 1) (vs := ints [y % 1000]) (l := ints [y % 1000]) Try.underlying22 sz3 z3 rfl rfl (by decide) (by decide) (by intro v hv; simp only [ints, i64, List.map_cons, List.map_nil, List.mem_cons, List.not_mem_nil, or_false] at hv; rcases hv with rfl; rfl) rfl) ?_; rintro _ _ ⟨b48, rfl, rfl⟩; refine ⟨by repeat (first | with_reducible exact dr_refl | apply dr_keep | apply dr_drop), ?_⟩; refine th_one (i := 8) (by kernel_rfl) ?_; refine oh_x (i := 8) (listed' := #[tt,tt,tt,tt,tt,tt,tt,tt,tt,ff,ff]) rfl rfl rfl (o_apB Try.underlying22 Try.underlying22 sz3 by3 z3 rfl (by decide) (by decide) rfl rfl rfl (by repeat (first | with_reducible exact ct_here | apply ct_left)) rfl rfl (by omega) (show _ = ints (kpR kp (i + 1)) by rw [kpR_succ hi, hy]; simp [ints])) ?_; rintro _ _ ⟨a49, c49, rfl, hc49, rfl⟩; refine ⟨by repeat (first | with_reducible exact dr_refl | apply dr_keep | apply dr_drop), ?_⟩; refine th_take (i := 9) (listed' := #[tt,tt,tt,tt,tt,tt,tt,tt,tt,tt,ff]) rfl (by kernel_rfl) (by kernel_rfl) (by kernel_rfl) rfl rfl (o_fieldAddr (o := 1) Try.underlying78 rfl rfl sz22 rfl) ?_
              refine th_one (i := 10) (by kernel_rfl) ?_; refine oh_u (i := 10) (listed' := #[tt,tt,tt,tt,tt,tt,tt,tt,tt,tt,tt]) rfl rfl rfl (o_stU (l' := [.int .i64 (1 + x % 120), .slice a49 (i + 1) c49]) rfl (by repeat (first | with_reducible exact upd_here | with_reducible exact upd_pt | apply upd_left)) sz22 rfl rfl (by show 1 < 2; decide) rfl) (by repeat (first | with_reducible exact dr_refl | apply dr_keep | apply dr_drop)) ?_; refine th_done (by kernel_rfl) ?_; refine q_block_n (q_then_n ?_); refine tc_reg ?_; refine tlm ?_; refine tv (by first | exact o_addI rfl rfl (by omega) | exact o_add rfl rfl) ?_; refine tla ?_; refine nq ?_; exact ⟨_, by omega, i + 1, _, _, by omega, hc49, rfl, rfl, rfl, rfl, rfl, rfl, rfl, rfl, rfl⟩
            · skip
              refine oh_x (i := 7) (listed' := #[tt,ff,tt,tt,tt,tt,tt,tt,ff,ff,ff]) rfl rfl rfl (o_buildSliceL (k := 1) (vs := ints [y % 1000]) (l := ints [y % 1000]) Try.underlying22 sz3 z3 rfl rfl (by decide) (by decide) (by intro v hv; simp only [ints, i64, List.map_cons, List.map_nil, List.mem_cons, List.not_mem_nil, or_false] at hv; rcases hv with rfl; rfl) rfl) ?_; rintro _ _ ⟨b48, rfl, rfl⟩; refine ⟨by repeat (first | with_reducible exact dr_refl | apply dr_keep | apply dr_drop), ?_⟩; refine th_one (i := 1) (by kernel_rfl) ?_; refine oh_v (i := 1) (listed' := #[tt,tt,tt,tt,tt,tt,tt,tt,ff,ff,ff]) rfl rfl rfl (by first | exact o_load p22 rfl (by repeat (first | with_reducible exact has_here | with_reducible exact has_pt | apply has_left)) rfl | exact o_loadC p22 rfl (by assumption)) ?_; refine th_one (i := 8) (by kernel_rfl) ?_; refine oh_x (i := 8) (listed' := #[tt,tt,tt,tt,tt,tt,tt,tt,tt,ff,ff]) rfl rfl rfl (o_apB Try.underlying22 Try.underlying22 sz3 by3 z3 rfl (by decide) (by decide) rfl rfl rfl (by repeat (first | with_reducible exact ct_here | apply ct_left)) rfl rfl (by omega) (show _ = ints (kpR kp (i + 1)) by rw [kpR_succ hi, hy]; simp [ints])) ?_; rintro _ _ ⟨a49, c49, rfl, hc49, rfl⟩; refine ⟨by repeat (first | with_reducible exact dr_refl | apply dr_keep | apply dr_drop), ?_⟩; refine th_take (i := 9) (listed' := #[tt,tt,tt,tt,tt,tt,tt,tt,tt,tt,ff]) rfl (by kernel_rfl) (by kernel_rfl) (by kernel_rfl) rfl rfl (o_fieldAddr (o := 1) Try.underlying78 rfl rfl sz22 rfl) ?_
              refine th_one (i := 10) (by kernel_rfl) ?_; refine oh_u (i := 10) (listed' := #[tt,tt,tt,tt,tt,tt,tt,tt,tt,tt,tt]) rfl rfl rfl (o_stU (l' := [.int .i64 (1 + x % 120), .slice a49 (i + 1) c49]) rfl (by repeat (first | with_reducible exact upd_here | with_reducible exact upd_pt | apply upd_left)) sz22 rfl rfl (by show 1 < 2; decide) rfl) (by repeat (first | with_reducible exact dr_refl | apply dr_keep | apply dr_drop)) ?_; refine th_done (by kernel_rfl) ?_; refine q_block_n (q_then_n ?_); refine tc_reg ?_; refine tlm ?_; refine tv (by first | exact o_addI rfl rfl (by omega) | exact o_add rfl rfl) ?_; refine tla ?_; refine nq ?_; exact ⟨_, by omega, i + 1, _, _, by omega, hc49, rfl, rfl, rfl, rfl, rfl, rfl, rfl, rfl, rfl⟩
        · obtain rfl : i = nk := by first | omega | (simp at h; omega)
          obtain ⟨sA, hsA, hAw, hAo, hAc, hAl, hAi⟩ := arm_facts (af := (1 + x % 120)) (k := kpR kp i) (by omega) kpR_b (by rw [kpR_len (by omega)]; omega)
          obtain ⟨X, hXX⟩ : ∃ X, brL es n28 = X := ⟨_, rfl⟩
          have hXm : X.all (mayX 1024 128 384) = true := hXX ▸ brL_may es n28
          have hXn : needN X ≤ 320 := hXX ▸ brL_need hn28
          have hXl : X.length = n28 := hXX ▸ brL_len hm28
          have hXb : ∀ x ∈ X, 1 ≤ x.2 ∧ x.2 ≤ 40 ∧ ((64 ≤ x.1 ∧ x.1 + x.2 ≤ 128) ∨ (512 ≤ x.1 ∧ x.1 + x.2 ≤ 1024)) := fun x hx => brL_mem (hXX ▸ hx)
          have hXW : ∀ x ∈ X, XW x := fun x hx => by have := hXb x hx; exact ⟨by omega, by omega⟩
          obtain ⟨e9, s9, q1, q2, q3, q4, q5, q6, q7, q8⟩ := whole_w hAw hAo hAc hAl hAi hXm hXn
          rw [hXX]
          refine tc_exit ?_; refine q_then_e (q_then_e (q_block_x (q_then_n ?_))); refine tc_seq ?_; refine sr ?_; refine tlm ?_; refine tv (o_loadN (vs := [.int .i64 (1 + x % 120), .slice a i c]) a78 sz78 rfl (by repeat (first | with_reducible exact has_here | with_reducible exact has_pt | apply has_left)) (by show 2 ≤ 2; decide) rfl) ?_; refine tl_x rfl (o_buildSliceK (k := 2) (l := [.int .i64 (1 + x % 120), .slice a i c]) Try.underlying47 sz78 z78 rfl rfl (by decide)) ?_; rintro _ _ ⟨b53, rfl, rfl⟩; refine tl_c rfl (o_call bd30 rfl (Arm_c (s := mds) (kvs := [.slice a i c]) (ars := [((1 + x % 120), kpR kp i)]) (hr := rda_one (by repeat (first | exact rs_pt rfl | apply Rs.left)) (by repeat (first | with_reducible exact rs_sl | apply Rs.left)) (kpR_len (by omega)) hp1) (hm := rfl) (hl := by decide) (hk := by intro z hz; rw [List.mem_singleton.1 hz]; exact ⟨by show _ ∧ (1 + x % 120) ≤ _; omega, by show (kpR kp i).length ≤ _; rw [kpR_len (by omega)]; omega, fun k hk => by have := kpR_b k hk; omega⟩))) ?_; rintro _ _ ⟨e54, s54, hs54, rfl, rfl⟩
          obtain ⟨rfl, rfl⟩ := pair_eq hsA hs54
          refine tv (o_nei rfl rfl) ?_; refine nq ?_; refine tc_cond rfl (fun h => ?_) (fun h => ?_)
          · exfalso; simp at h
          · try simp only [lv1, lv2, lv3, lv4, lv5, lv6, Bool.not_true, Bool.not_false] at h
            refine tc_skip ?_; refine q_then_n ?_; refine sr ?_; refine tlm ?_; refine tlm ?_; refine tl_c rfl (o_call bd31 rfl (extents_c (l := X) (hr := (by repeat (first | assumption | with_reducible exact rs_sl | with_reducible exact rs_pt0 | apply Rs.left))))) ?_; rintro _ _ ⟨a58, c58, rfl, hc58, rfl⟩; refine tl_c rfl (o_call bd24 rfl (Write_c (s := sA) (xs := X) (hlw := by rw [hAl]; exact ⟨by decide, by decide, by decide, by decide, by decide⟩) (hr := rs_ext (m := fiveX 5) (by repeat (first | with_reducible exact rs_sl | apply Rs.left))) (hm := hXl) (hX := hXW) (hroom := room_cln hAc (by decide)))) ?_; rintro _ _ ⟨e59, s59, hs59, rfl, rfl⟩
            obtain ⟨rfl, rfl⟩ := pair_eq q1 hs59
            refine tla ?_; refine nq ?_; refine tc_seq ?_; refine tc_seq ?_; refine tc_cut (fun ρ BB => ρ 72 = .bool false ∧ ρ 7 = .pointer (some ⟨d, 0, none⟩) ∧ ρ 8 = .pointer (some ⟨bl, 0, none⟩) ∧ ρ 10 = .slice a28 n28 c28 ∧ ρ 11 = .slice a30 1024 c30 ∧ ρ 14 = .int .i64 e9 ∧ Dr BB (F * Dev d s9 * pt bl (cl (lcs11 d 128 384) 52) * Sl 2 (.slice a28 n28 c28) n28 (xcl X) * Sl 1 (.slice a30 1024 c30) 1024 (bys mdI))) ?_ ?_
            · skip
              refine tc_reg ?_; refine tlm ?_; refine tv (o_nei rfl rfl) ?_; refine tlm ?_; refine tl_bool (d := 62) rfl (fun h => ?_) (fun h => ?_)
              · have g62 : (e9 ≠ 0) := by first | exact of_decide_eq_true h | (have h2 := h; simp at h2; omega) | simpa using h
                refine tlm ?_; refine tv (o_nei rfl rfl) ?_; refine tl_env (d := 64) (v := .bool false) (by show Value.bool (decide _) = _; rw [decide_eq_false (by omega)]) ?_; refine tv (o_pick_t rfl (by conv => lhs; whnf)) ?_; refine tlm ?_; refine tl_bool (d := 66) rfl (fun h => ?_) (fun h => ?_)
                · exfalso; simp at h
                · try simp only [lv1, lv2, lv3, lv4, lv5, lv6, Bool.not_true, Bool.not_false] at h
                  refine tlm ?_; refine tv (o_eqi rfl rfl) ?_; refine tlm ?_; refine tl_c rfl (o_call bd32 rfl (Off_c (s := s9))) ?_; rintro _ _ ⟨rfl, rfl⟩; refine tv (o_neb Try.underlying4 rfl rfl) ?_; refine tl_env (d := 71) (v := .bool false) (by show Value.bool (!(decide (e9 = 5) == s9.off)) = _; rw [q3]; simp) ?_; refine tv (o_pick_f rfl (by conv => lhs; whnf)) ?_; refine tl_nil ?_; exact ⟨rfl, rfl, rfl, rfl, rfl, rfl, (by repeat (first | with_reducible exact dr_refl | apply dr_keep | apply dr_drop))⟩
              · have g62 : ¬ (e9 ≠ 0) := by first | exact of_decide_eq_false h | (have h2 := h; simp at h2; omega) | simpa using h
                refine tk ?_; refine tk ?_; refine tv (o_pick_f rfl (by conv => lhs; whnf)) ?_; refine tlm ?_; refine tlm ?_; refine tv (o_eqi rfl rfl) ?_; refine tlm ?_; refine tl_c rfl (o_call bd32 rfl (Off_c (s := s9))) ?_; rintro _ _ ⟨rfl, rfl⟩; refine tv (o_neb Try.underlying4 rfl rfl) ?_; refine tl_env (d := 71) (v := .bool false) (by show Value.bool (!(decide (e9 = 5) == s9.off)) = _; rw [q3]; simp) ?_; refine tv (o_pick_f rfl (by conv => lhs; whnf)) ?_; refine tl_nil ?_; exact ⟨rfl, rfl, rfl, rfl, rfl, rfl, (by repeat (first | with_reducible exact dr_refl | apply dr_keep | apply dr_drop))⟩
            · intro ρ B hI
              obtain ⟨hE72, hE7, hE8, hE10, hE11, hE14, hBA⟩ := hI
              refine q_then_n ?_; refine tc_pre hBA.sat ?_
              clear hBA
              refine tc_env (d := 72) hE72 ?_; refine tc_env (d := 7) hE7 ?_; refine tc_env (d := 8) hE8 ?_; refine tc_env (d := 10) hE10 ?_; refine tc_env (d := 11) hE11 ?_; refine tc_env (d := 14) hE14 ?_
              clear hE72 hE7 hE8 hE10 hE11 hE14
              refine tc_cond rfl (fun h => ?_) (fun h => ?_)
              · exfalso; simp at h
              · try simp only [lv1, lv2, lv3, lv4, lv5, lv6, Bool.not_true, Bool.not_false] at h
                refine tc_skip ?_; refine q_then_n ?_; refine tc_seq ?_; refine tc_seq ?_; refine tc_cut (fun ρ BB => ∃ (sW : DevS), (sW = { s9 with off := false }) ∧ ρ 79 = .bool false ∧ ρ 7 = .pointer (some ⟨d, 0, none⟩) ∧ ρ 8 = .pointer (some ⟨bl, 0, none⟩) ∧ ρ 10 = .slice a28 n28 c28 ∧ ρ 11 = .slice a30 1024 c30 ∧ ρ 14 = .int .i64 e9 ∧ BB = F * Dev d sW * pt bl (cl (lcs11 d 128 384) 52) * Sl 2 (.slice a28 n28 c28) n28 (xcl X) * Sl 1 (.slice a30 1024 c30) 1024 (bys mdI)) ?_ ?_
                · skip
                  refine tc_reg ?_; refine tlm ?_; refine tl_c rfl (o_call bd32 rfl (Off_c (s := s9))) ?_; rintro _ _ ⟨rfl, rfl⟩; refine tlm ?_; refine tl_bool (d := 75) rfl (fun h => ?_) (fun h => ?_)
                  · have hoff : s9.off = true := by first | exact h | simpa using h
                    refine tlm ?_; refine tl_c rfl (o_call bd33 rfl (Wake_c (s := s9))) ?_; rintro _ _ ⟨rfl, rfl⟩; refine tl_env (d := 77) (v := .int .i64 0) (by show Value.int .i64 (if s9.off = true then 0 else 3) = _; rw [if_pos hoff]) ?_; refine tv (o_nei rfl rfl) ?_; refine tv (o_pick_t rfl (by conv => lhs; whnf)) ?_; refine tl_nil ?_; exact ⟨_, by first | rfl | (cases s9; simp only at hoff; subst hoff; rfl), rfl, rfl, rfl, rfl, rfl, rfl, rfl⟩
                  · have hoff : s9.off = false := by first | exact h | simpa using h
                    refine tk ?_; refine tk ?_; refine tk ?_; refine tv (o_pick_f rfl (by conv => lhs; whnf)) ?_; refine tl_nil ?_; exact ⟨_, by first | rfl | (cases s9; simp only at hoff; subst hoff; rfl), rfl, rfl, rfl, rfl, rfl, rfl, rfl⟩
                · intro ρ B hI
                  obtain ⟨sW, hjw0, hE79, hE7, hE8, hE10, hE11, hE14, rfl⟩ := hI
                  refine q_then_n ?_; refine tc_env (d := 79) hE79 ?_; refine tc_env (d := 7) hE7 ?_; refine tc_env (d := 8) hE8 ?_; refine tc_env (d := 10) hE10 ?_; refine tc_env (d := 11) hE11 ?_; refine tc_env (d := 14) hE14 ?_
                  clear hE79 hE7 hE8 hE10 hE11 hE14
                  refine tc_cond rfl (fun h => ?_) (fun h => ?_)
                  · exfalso; simp at h
                  · try simp only [lv1, lv2, lv3, lv4, lv5, lv6, Bool.not_true, Bool.not_false] at h
                    refine tc_skip ?_; refine q_then_n ?_; refine tc_seq ?_
                    have hWw : WfD sW := hjw0 ▸ wfd_on q4
                    have hWl : sW.ls.length = 16 := by rw [hjw0]; exact q6
                    have hWo : sW.off = false := by rw [hjw0]
                    have hWi : Out 128 512 (imgS sW) mdI := by rw [hjw0, img_on11]; exact q7
                    rw [← hjw0] at q8
                    have hml := mdI_len
                    have hil : (imgS sW).length = 1024 := by rw [imgS_len hWw, hWl]
                    obtain ⟨L, hL, hLo⟩ : ∃ L, recordsS 128 384 sW = (L, 0) ∧ (L = oldsL mdI X ∨ (L = [] ∧ e9 = 5)) := by rcases q8 with h9 | h9; exact ⟨_, h9, .inl rfl⟩; exact ⟨_, h9.2, .inr ⟨rfl, h9.1⟩⟩
                    have hol3 : ∀ z ∈ oldsL mdI X, z.2.length ≤ 4294967296 := fun z hz => by obtain ⟨y, hy, rfl⟩ := olds_mem hz; have := hXb y hy; show ((mdI.drop y.1.toNat).take y.2.toNat).length ≤ _; rw [List.length_take]; omega
                    have hL3 : ∀ z ∈ L, z.2.length ≤ 4294967296 := fun z hz => by rcases hLo with h9 | h9; exact hol3 z (h9 ▸ hz); rw [h9.1] at hz; cases hz
                    have hLn : L.length ≤ 1048576 := by rcases hLo with h9 | h9; rw [h9, olds_len]; omega; rw [h9.1]; exact Nat.zero_le _
                    refine tc_reg ?_; refine tlm ?_; refine tl_c rfl (o_call bd25 rfl (Records_w (s := sW) (hX := hL) (hlw := by rw [hWl]; exact ⟨by decide, by decide, by decide, by decide, by decide⟩))) ?_; rintro _ _ ⟨a82, c82, vs, rfl, hc82, hvs, rfl⟩; refine tl_have (fun _ _ h => parts_getD hvs h.left) fun hps => ?_; refine tlm ?_; refine tv (o_extract rfl rfl) ?_; refine tv (o_extract rfl rfl) ?_; refine tla ?_; refine tla ?_; refine nq ?_; refine sr ?_; refine tlm ?_; refine tl_c rfl (o_call bd23 rfl (image_w (s := sW) (imgS sW) hWl rfl)) ?_; rintro _ _ ⟨a86, c86, rfl, hc86, rfl⟩; refine tla ?_; refine nq ?_; refine tc_seq ?_; refine tc_seq ?_; refine tc_regq mo (by kernel_rfl) ?_; refine ql_v rfl (o_move (by conv => lhs; whnf)) ?_; refine ql_v rfl (o_nei rfl rfl) ?_; refine ql_v rfl (o_move (by conv => lhs; whnf)) ?_; refine ql_bool (d := 89) rfl (fun h => ?_) (fun h => ?_)
                    · exfalso; simp at h
                    · try simp only [lv1, lv2, lv3, lv4, lv5, lv6, Bool.not_true, Bool.not_false] at h
                      refine ql_v rfl (o_move (by conv => lhs; whnf)) ?_; refine ql_v rfl (o_len Try.underlying60 rfl) ?_; refine ql_v rfl (o_nei rfl rfl) ?_; refine ql_v rfl (o_pick_f rfl (by conv => lhs; whnf)) ?_; refine ql_v rfl (o_move (by conv => lhs; whnf)) ?_; refine ql_bool (d := 94) rfl (fun h => ?_) (fun h => ?_)
                      · exfalso; simp at h
                      · try simp only [lv1, lv2, lv3, lv4, lv5, lv6, Bool.not_true, Bool.not_false] at h
                        refine ql_v rfl (o_move (by conv => lhs; whnf)) ?_; refine ql_v rfl (o_slice (l := 0) (h := 128) Try.underlying60 sz5 rfl bnd_none (bnd_nat rfl) (by omega) (by omega)) ?_; refine ql_env (d := 96) (v := .slice a86 128 c86) (by show Value.slice (cutAddr _ _ 0 1) (128 - 0) (c86 - 0) = _; rw [show cutAddr a86 c86 0 1 = a86 by unfold cutAddr; cases a86 <;> simp [Addr.add]]; rfl) ?_; refine ql_v rfl (o_move (by conv => lhs; whnf)) ?_; refine ql_v rfl (o_slice (l := 0) (h := 128) Try.underlying60 sz5 rfl bnd_none (bnd_nat rfl) (by omega) (by omega)) ?_; refine ql_env (d := 98) (v := .slice a30 128 c30) (by show Value.slice (cutAddr _ _ 0 1) (128 - 0) (c30 - 0) = _; rw [show cutAddr a30 c30 0 1 = a30 by unfold cutAddr; cases a30 <;> simp [Addr.add]]; rfl) ?_; refine ql_c rfl (fun w => exec_call bd34 rfl) (EqBytes_c (xs := (imgS sW).take 128) (ys := mdI.take 128) (h1 := eq_take (by repeat (first | with_reducible exact rs_sl | apply Rs.left))) (h2 := eq_take (by repeat (first | with_reducible exact rs_sl | apply Rs.left))) (hx := by rw [List.length_take, hil]; rfl) (hy := by rw [List.length_take, hml]; rfl)) ?_; refine ql_env (d := 99) (v := .bool true) (by show Value.bool (decide _) = _; rw [decide_eq_true (out_take hWi (Nat.le_refl _))]) ?_; refine ql_v rfl (o_not rfl) ?_; refine ql_v rfl (o_pick_f rfl (by conv => lhs; whnf)) ?_
                        refine ql_v rfl (o_move (by conv => lhs; whnf)) ?_; refine ql_bool (d := 102) rfl (fun h => ?_) (fun h => ?_)
                        · exfalso; simp at h
                        · try simp only [lv1, lv2, lv3, lv4, lv5, lv6, Bool.not_true, Bool.not_false] at h
                          refine ql_v rfl (o_move (by conv => lhs; whnf)) ?_; refine ql_v rfl (o_slice (l := 512) (h := 1024) Try.underlying60 sz5 rfl (bnd_nat rfl) bnd_none (by omega) (by omega)) ?_; refine ql_env (d := 104) (v := .slice (cutAddr a86 c86 512 1) 512 (c86 - 512)) (rfl) ?_; refine ql_v rfl (o_move (by conv => lhs; whnf)) ?_; refine ql_v rfl (o_slice (l := 512) (h := 1024) Try.underlying60 sz5 rfl (bnd_nat rfl) bnd_none (by omega) (by omega)) ?_; refine ql_env (d := 106) (v := .slice (cutAddr a30 c30 512 1) 512 (c30 - 512)) (rfl) ?_; refine ql_c rfl (fun w => exec_call bd34 rfl) (EqBytes_c (xs := ((imgS sW).drop 512).take 512) (ys := (mdI.drop 512).take 512) (h1 := rs_mid (l := 512) (m := 512) (by repeat (first | with_reducible exact rs_sl | apply Rs.left)) (by omega)) (h2 := rs_mid (l := 512) (m := 512) (by repeat (first | with_reducible exact rs_sl | apply Rs.left)) (by omega)) (hx := by rw [List.length_take, List.length_drop, hil]; rfl) (hy := by rw [List.length_take, List.length_drop, hml]; rfl)) ?_; refine ql_env (d := 107) (v := .bool true) (by show Value.bool (decide _) = _; rw [decide_eq_true (out_sub hWi (.inr (by decide)))]) ?_; refine ql_v rfl (o_not rfl) ?_; refine ql_v rfl (o_pick_f rfl (by conv => lhs; whnf)) ?_; refine ql_nil ?_
                          refine q_then_n ?_; refine tc_cond rfl (fun h => ?_) (fun h => ?_)
                          · exfalso; simp at h
                          · try simp only [lv1, lv2, lv3, lv4, lv5, lv6, Bool.not_true, Bool.not_false] at h
                            refine tc_skip ?_; refine q_then_n ?_; refine tc_seq ?_; refine sr ?_; refine tlm ?_; refine tlm ?_; refine tlm ?_; refine tl_c rfl (o_call bd26 rfl (olds_c (I := mdI) (l := X) (a := a30) (b := a28) (hI := (by repeat (first | with_reducible exact rs_sl | apply Rs.left))) (hr := (by repeat (first | with_reducible exact rs_sl | apply Rs.left))) (hIl := hml) (hm := hXl) (hl := fun z hz => by have := hXb z hz; omega))) ?_; rintro _ _ ⟨a113, c113, vs2, rfl, hc113, hvs2, rfl⟩; refine tl_have (fun _ _ h => parts_getD hvs2 h.left) fun hps2 => ?_
                            have hol9 := olds_len mdI X
                            refine tl_c rfl (o_call bd27 rfl (sameRecords_c (La := L) (Lb := oldsL mdI X) (ha := (by repeat (first | with_reducible exact rs_sl | apply Rs.left))) (hb := (by repeat (first | with_reducible exact rs_sl | apply Rs.left))) (hva := hvs) (hvb := hvs2) (hna := rfl) (hnb := by omega) (hpa := by repeat (first | exact psr_of hvs hps hL3 | apply PsR.left)) (hpb := by repeat (first | exact psr_of hvs2 hps2 hol3 | apply PsR.left)))) ?_; rintro _ _ ⟨rfl, rfl⟩; refine nq ?_; refine tc_cond rfl (fun h => ?_) (fun h => ?_)
                            · skip
                              refine sr ?_; refine tla ?_; refine nq ?_; refine tc_ret ?_; refine q_then_r ?_; exact ⟨.bool true, F, res1 rfl rfl, Dr.sat (by repeat (first | with_reducible exact dr_refl | apply dr_keep | apply dr_drop)), rfl, rfl⟩
                            · have hne9 : L ≠ oldsL mdI X := by first | exact of_decide_eq_false h | simpa using h
                              obtain ⟨rfl, rfl⟩ : L = [] ∧ e9 = 5 := by rcases hLo with h9 | h9; exact absurd h9 hne9; exact h9
                              refine tc_skip ?_; refine q_then_n ?_; refine sr ?_; refine tlm ?_; refine tv (o_len Try.underlying63 rfl) ?_; refine tv (o_eqi rfl rfl) ?_; refine tlm ?_; refine tl_bool (d := 118) rfl (fun h => ?_) (fun h => ?_)
                              · try simp only [lv1, lv2, lv3, lv4, lv5, lv6, Bool.not_true, Bool.not_false] at h
                                refine tlm ?_; refine tv (o_eqi rfl rfl) ?_; refine tv (o_pick_t rfl (by conv => lhs; whnf)) ?_; refine tla ?_; refine nq ?_; refine tc_ret ?_; exact ⟨.bool true, F, res1 rfl rfl, Dr.sat (by repeat (first | with_reducible exact dr_refl | apply dr_keep | apply dr_drop)), rfl, rfl⟩
                              · exfalso; simp at h
end Go.Vl

set_option linter.unusedVariables false
set_option linter.unusedSimpArgs false
namespace Go.Vl
open Go Go.Proofs
theorem flatG {α : Type} {f : α → List Value} : ∀ {Cs : List (List Value)} {xs : List α} (_ : Cs.length = xs.length) (_ : ∀ i (h : i < xs.length) (h' : i < Cs.length), Cs[i] = f xs[i]), Cs.flatten = xs.flatMap f
  | [], [], _, _ => rfl
  | c :: Cs, x :: xs, hl, h => by
    have h0 := h 0 (by simp) (by simp)
    simp only [List.getElem_cons_zero] at h0
    rw [List.flatten_cons, h0, flatG (f := f) (Cs := Cs) (xs := xs) (by simpa using hl) (fun i hi hi' => h (i + 1) (by simpa using hi) (by simpa using hi')), List.flatMap_cons]
theorem two_ofG {α : Type} : ∀ {l : List α}, l.length = 2 → ∃ a b, l = [a, b]
  | [a, b], _ => ⟨a, b, rfl⟩
theorem five_ofG {α : Type} : ∀ {l : List α}, l.length = 5 → ∃ a b c d e, l = [a, b, c, d, e]
  | [a, b, c, d, e], _ => ⟨a, b, c, d, e, rfl⟩
theorem four_ofG {α : Type} : ∀ {l : List α}, l.length = 4 → ∃ a b c d, l = [a, b, c, d]
  | [a, b, c, d], _ => ⟨a, b, c, d, rfl⟩
set_option maxRecDepth 20000 in
theorem rdb_xt (W : World) : Rdb Try.prog W 74 (fun cs (x : Int × Int) => cs = xcs x ∧ XW x) := fun H enc sp hd fu cs d pl h hw => by
  obtain ⟨hl, hf⟩ := rdb_fields Try.underlying74 h hw
  have hc : Try.prog.cellsOf 74 = 2 := by kernel_rfl
  have hci : Try.prog.cellsOf 3 = 1 := by kernel_rfl
  rw [hc] at hl
  obtain ⟨x, e0, w0⟩ := hf 0 _ rfl (rdb_int Try.underlying3)
  obtain ⟨y, e1, w1⟩ := hf 1 _ rfl (rdb_int Try.underlying3)
  obtain ⟨c0, c1, rfl⟩ := two_ofG hl
  simp [hci] at e0
  simp [hci] at e1
  subst e0 e1
  exact ⟨(x, y), rfl, ⟨i64_wf w0, i64_wf w1⟩⟩
theorem reach_n {n k m : Nat} (h : n * k ≤ reachBytes) (hm : 140737488355328 ≤ m * k := by decide) (hk : 0 < k := by decide) : n ≤ m := by
  have h1 : reachBytes ≤ 140737488355328 := by decide
  exact Nat.le_of_mul_le_mul_right (Nat.le_trans h (Nat.le_trans h1 hm)) hk
def PXts (A : SP) (cs : List Value) (es : List (Int × Int)) : Prop := ∃ a c, cs = [.slice a es.length c] ∧ es.length ≤ c ∧ es.length ≤ 8796093022208 ∧ Rs A a (xcl es) ∧ ∀ x ∈ es, XW x
theorem rdb_xts (W : World) : Rdb Try.prog W 53 (PXts (old W)) :=
  (rdb_slice (k := 2) (b := 16) Try.underlying53 (by kernel_rfl) (by kernel_rfl) (by decide) (rdb_xt W)).mono fun cs xs ⟨a, cap, Cs, e1, hc, hs, hl, hx, hr⟩ => by
    refine ⟨xs, ⟨a, cap, e1, hc, reach_n hs, ?_, fun x hx' => ?_⟩⟩
    · rw [show xcl xs = Cs.flatten from (flatG hl (fun i h h' => (hx i h h').2.1)).symm]; exact hr
    · obtain ⟨i, hi, rfl⟩ := List.mem_iff_getElem.1 hx'
      exact (hx i hi (by omega)).2.2
/-- One arm of a story. -/
structure Ar1 where
  af : Int
  a : Option Addr
  c : Nat
  kp : List Int
def Ar1.cells (x : Ar1) : List Value := [.int .i64 x.af, .slice x.a x.kp.length x.c]
set_option maxRecDepth 20000 in
theorem rdb_ar (W : World) : Rdb Try.prog W 78 (fun cs (x : Ar1) => cs = x.cells ∧ x.kp.length ≤ x.c ∧ x.kp.length ≤ 17592186043904 ∧ Rs (old W) x.a (ints x.kp) ∧ (-9223372036854775808 ≤ x.af ∧ x.af ≤ 9223372036854775807) ∧ ∀ k ∈ x.kp, -9223372036854775808 ≤ k ∧ k ≤ 9223372036854775807) := fun H enc sp hd fu cs d pl h hw => by
  obtain ⟨hl, hf⟩ := rdb_fields Try.underlying78 h hw
  have hc : Try.prog.cellsOf 78 = 2 := by kernel_rfl
  have hci : Try.prog.cellsOf 3 = 1 := by kernel_rfl
  have hck : Try.prog.cellsOf 22 = 1 := by kernel_rfl
  rw [hc] at hl
  obtain ⟨af, e0, w0⟩ := hf 0 _ rfl (rdb_int Try.underlying3)
  obtain ⟨kp, ka, kc, e1, g1, g2, r1, l1⟩ := hf 1 _ rfl (rdb_ints Try.underlying22 Try.underlying3 (by kernel_rfl) (by kernel_rfl))
  obtain ⟨c0, c1, rfl⟩ := two_ofG hl
  simp [hci] at e0
  simp [hck] at e1
  subst e0 e1
  exact ⟨⟨af, ka, kc, kp⟩, rfl, g1, g2, r1, i64_wf w0, l1⟩
theorem acs_mapG : ∀ (xs : List Ar1), acs (xs.map fun x => .slice x.a x.kp.length x.c) (xs.map fun x => (x.af, x.kp)) = xs.flatMap Ar1.cells
  | [] => rfl
  | x :: xs => by
    simp only [List.map_cons, List.flatMap_cons]
    show _ :: _ :: acs _ _ = _
    rw [acs_mapG xs]; rfl
def PArs (A : SP) (cs : List Value) (p : List Value × List (Int × List Int)) : Prop := ∃ a c, cs = [.slice a p.2.length c] ∧ p.2.length ≤ c ∧ p.2.length ≤ 4398046511104 ∧ RdA A a p.1 p.2 ∧ ∀ x ∈ p.2, (-9223372036854775808 ≤ x.1 ∧ x.1 ≤ 9223372036854775807) ∧ x.2.length ≤ 17592186043904 ∧ ∀ k ∈ x.2, -9223372036854775808 ≤ k ∧ k ≤ 9223372036854775807
theorem rdb_ars (W : World) : Rdb Try.prog W 47 (PArs (old W)) :=
  (rdb_slice (k := 2) (b := 32) Try.underlying47 (by kernel_rfl) (by kernel_rfl) (by decide) (rdb_ar W)).mono fun cs xs ⟨a, cap, Cs, e1, hc, hs, hl, hx, hr⟩ => by
    have e2 : Cs.flatten = xs.flatMap Ar1.cells := flatG hl fun i h h' => (hx i h h').2.1
    refine ⟨(xs.map fun x => .slice x.a x.kp.length x.c, xs.map fun x => (x.af, x.kp)), ⟨a, cap, by simpa using e1, by simpa using hc, by simpa using reach_n (m := 4398046511104) hs, ⟨?_, by simp, fun i hi => ?_⟩, fun x hx' => ?_⟩⟩
    · rw [acs_mapG, ← e2]; exact hr
    · have hi' : i < xs.length := by simpa using hi
      have := (hx i hi' (by omega)).2
      exact ⟨xs[i].a, xs[i].c, by simp [hi'], by simpa using this.2.1, by simpa using this.2.2.2.1⟩
    · obtain ⟨y, hy, rfl⟩ := List.mem_map.1 hx'
      obtain ⟨i, hi, rfl⟩ := List.mem_iff_getElem.1 hy
      have := (hx i hi (by omega)).2
      exact ⟨this.2.2.2.2.1, this.2.2.1, this.2.2.2.2.2⟩
/-- One change of a story. -/
structure Chg where
  q : Int
  p : Int
  a : Option Addr
  c : Nat
  b : List Nat
  fl : Bool
  fe : Bool
def Chg.cells (x : Chg) : List Value := [.int .i64 x.q, .int .i64 x.p, .slice x.a x.b.length x.c, .bool x.fl, .bool x.fe]
structure ChgW (A : SP) (x : Chg) : Prop where
  q : (-9223372036854775808 ≤ x.q ∧ x.q ≤ 9223372036854775807)
  p : (-9223372036854775808 ≤ x.p ∧ x.p ≤ 9223372036854775807)
  cap : x.b.length ≤ x.c
  len : x.b.length ≤ 140737488351232
  rs : Rs A x.a (bys x.b)
  by_ : ∀ y ∈ x.b, y < 256
theorem ChgW.left {A X : SP} {x : Chg} (h : ChgW A x) : ChgW (A * X) x := ⟨h.q, h.p, h.cap, h.len, h.rs.left, h.by_⟩
set_option maxRecDepth 20000 in
theorem rdb_ch (W : World) : Rdb Try.prog W 118 (fun cs (x : Chg) => cs = x.cells ∧ ChgW (old W) x) := fun H enc sp hd fu cs d pl h hw => by
  obtain ⟨hl, hf⟩ := rdb_fields Try.underlying118 h hw
  have hc : Try.prog.cellsOf 118 = 5 := by kernel_rfl
  have hci : Try.prog.cellsOf 3 = 1 := by kernel_rfl
  have hcb : Try.prog.cellsOf 60 = 1 := by kernel_rfl
  have hcl : Try.prog.cellsOf 4 = 1 := by kernel_rfl
  rw [hc] at hl
  obtain ⟨q, e0, w0⟩ := hf 0 _ rfl (rdb_int Try.underlying3)
  obtain ⟨p, e1, w1⟩ := hf 1 _ rfl (rdb_int Try.underlying3)
  obtain ⟨b, a, c, e2, g1, g2, g3, g4⟩ := hf 2 _ rfl (rdb_bys Try.underlying60 Try.underlying5 (by kernel_rfl) (by kernel_rfl))
  obtain ⟨fl, e3⟩ := hf 3 _ rfl (rdb_bool Try.underlying4)
  obtain ⟨fe, e4⟩ := hf 4 _ rfl (rdb_bool Try.underlying4)
  obtain ⟨c0, c1, c2, c3, c4, rfl⟩ := five_ofG hl
  simp [hci] at e0
  simp [hci] at e1
  simp [hcb] at e2
  simp [PBool, hcl] at e3 e4
  subst e0 e1 e2 e3 e4
  exact ⟨⟨q, p, a, c, b, fl, fe⟩, rfl, i64_wf w0, i64_wf w1, g1, g2, g3, g4⟩
def chl (l : List Chg) : List Value := l.flatMap Chg.cells
def PChs (A : SP) (cs : List Value) (l : List Chg) : Prop := ∃ a c, cs = [.slice a l.length c] ∧ l.length ≤ c ∧ l.length ≤ 2932031007403 ∧ Rs A a (chl l) ∧ ∀ x ∈ l, ChgW A x
theorem rdb_chs (W : World) : Rdb Try.prog W 54 (PChs (old W)) :=
  (rdb_slice (k := 5) (b := 48) Try.underlying54 (by kernel_rfl) (by kernel_rfl) (by decide) (rdb_ch W)).mono fun cs xs ⟨a, cap, Cs, e1, hc, hs, hl, hx, hr⟩ => by
    refine ⟨xs, ⟨a, cap, e1, hc, reach_n hs, ?_, fun x hx' => ?_⟩⟩
    · rw [show chl xs = Cs.flatten from (flatG hl (fun i h h' => (hx i h h').2.1)).symm]; exact hr
    · obtain ⟨i, hi, rfl⟩ := List.mem_iff_getElem.1 hx'
      exact (hx i hi (by omega)).2.2
/-- A story. -/
structure Stx where
  es : List (Int × Int)
  ch : List Chg
  kvs : List Value
  ars : List (Int × List Int)
  lg : Bool
def PSto (A : SP) (cs : List Value) (t : Stx) : Prop := ∃ v1 v2 v3, cs = [v1, v2, v3, .bool t.lg] ∧ PXts A [v1] t.es ∧ PChs A [v2] t.ch ∧ PArs A [v3] (t.kvs, t.ars)
set_option maxRecDepth 20000 in
theorem rdb_sto (W : World) : Rdb Try.prog W 56 (PSto (old W)) := fun H enc sp hd fu cs d pl h hw => by
  obtain ⟨hl, hf⟩ := rdb_fields Try.underlying56 h hw
  have hc : Try.prog.cellsOf 56 = 4 := by kernel_rfl
  have hc0 : Try.prog.cellsOf 53 = 1 := by kernel_rfl
  have hc1 : Try.prog.cellsOf 54 = 1 := by kernel_rfl
  have hc2 : Try.prog.cellsOf 47 = 1 := by kernel_rfl
  have hc3 : Try.prog.cellsOf 4 = 1 := by kernel_rfl
  rw [hc] at hl
  obtain ⟨es, e0⟩ := hf 0 _ rfl (rdb_xts W)
  obtain ⟨ch, e1⟩ := hf 1 _ rfl (rdb_chs W)
  obtain ⟨ar, e2⟩ := hf 2 _ rfl (rdb_ars W)
  obtain ⟨lg, e3⟩ := hf 3 _ rfl (rdb_bool Try.underlying4)
  obtain ⟨c0, c1, c2, c3, rfl⟩ := four_ofG hl
  simp [hc0] at e0
  simp [hc1] at e1
  simp [hc2] at e2
  simp [PBool, hc3] at e3
  subst e3
  exact ⟨⟨es, ch, ar.1, ar.2, lg⟩, c0, c1, c2, rfl, e0, e1, e2⟩
theorem UlogWhole_L (F : SP) (cs : Array Value) (t : Stx) (h : PSto F cs.toList t) (v : Value) (x : Int) (hx : PInt .i64 [v] x) (v2 : Value) (kp : List Int) (hk : PInts F [v2] kp) : Fn Try.prog 7 #[.agg cs, v, v2] F (fun r B => r = .bool true ∧ B = F) := by
  obtain ⟨u0, u1, u2, e, ⟨a, c, e0, _, hs, hr, hw⟩, _, _⟩ := h
  obtain ⟨e2, w2⟩ := hx
  obtain ⟨a3, c3, e3, hc3, hs3, hr3, hw3⟩ := hk
  simp only [List.cons.injEq, and_true] at e0 e2 e3
  subst e0 e2 e3
  obtain rfl : cs = #[.slice a t.es.length c, u1, u2, .bool t.lg] := Array.ext' e
  exact UlogWhole_f F hr rfl hw hs (i64_wf w2) hr3 rfl hw3 hs3
end Go.Vl
