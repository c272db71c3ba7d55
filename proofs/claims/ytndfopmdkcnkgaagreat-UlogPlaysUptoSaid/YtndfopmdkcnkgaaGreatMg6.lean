/- What the row rests on, part 6: a calculus of assertions, walks of functions over it, and plain laws. Conditions: none. -/
import Derived.Deep.QuietTactic
import Derived.BigQuiet
import Derived.WalkKit
import Derived.Test.YtndfopmdkcnkgaaGreatProg
import Derived.OrdersHeld
import Derived.Laws.BytesArg
import Derived.RangeFuncRecord
import Derived.TacticsIn
import Derived.Deep.Slices
import Derived.OpenShut
import Derived.ChangeArms
import Derived.SizedLaws
import Derived.ChangeSame
import Derived.Test.YtndfopmdkcnkgaaGreatRows
import Derived.Sort.QuietThIn
import Derived.Test.YtndfopmdkcnkgaaGreatMg5
set_option linter.unusedVariables false
set_option linter.unusedSimpArgs false
namespace Go.Vl
open Go Go.Proofs
theorem sq7z {p : Prop} (h : p := by repeat (first | with_reducible exact rs_sl | apply Rs.left)) : p := h
theorem recsF_big {n at_ sz : Nat} {room : List Nat} : ∀ {k p : Nat}, p ≤ room.length → room.length < p + k → recsF n at_ sz room k p = ([], 110)
  | 0, p, h1, h2 => by omega
  | k + 1, p, h1, h2 => by
    have e : recsF n at_ sz room (k + 1) p = match readS n at_ sz room p with
      | none => ([], 110)
      | some (x, t) => if (recsF n at_ sz room k (p + t)).2 ≠ 0 then ([], 110) else (x :: (recsF n at_ sz room k (p + t)).1, 0) := rfl
    rw [e]
    cases hr : readS n at_ sz room p with
    | none => rfl
    | some y =>
      have h3 := read_room (x := y.1) (t := y.2) hr
      have h4 : recsF n at_ sz room k (p + y.2) = ([], 110) := recsF_big oqz oqz
      simp only []
      rw [h4, if_pos (by decide)]
theorem xcl_at0 {l : List (Int × Int)} {j : Nat} (h : j < l.length) : (xcl l)[j * 2 + 0]? = some (.int .i64 l[j].1) := fm_atj (f := xcs) (k := 2) (fun _ _ => rfl) h (by decide) rfl
theorem xcl_at1 {l : List (Int × Int)} {j : Nat} (h : j < l.length) : (xcl l)[j * 2 + 1]? = some (.int .i64 l[j].2) := fm_atj (f := xcs) (k := 2) (fun _ _ => rfl) h (by decide) rfl
theorem kcl_a0 {L : List (Nat × List Nat)} {vs : List Value} {k : Nat} (h : vs.length = L.length) (hk : k < L.length) : (kcl L vs)[k * 2 + 0]? = some (.int .i64 ((L.getD k (0, [])).1 : Nat)) := by
  have h1 := congrArg (fun l : List Value => l[0]?) (kcl_at h hk)
  simp only [List.getElem?_take, List.getElem?_drop] at h1
  exact h1
theorem kcl_a1 {L : List (Nat × List Nat)} {vs : List Value} {k : Nat} (h : vs.length = L.length) (hk : k < L.length) : (kcl L vs)[k * 2 + 1]? = some (vs.getD k (.slice none 0 0)) := by
  have h1 := congrArg (fun l : List Value => l[1]?) (kcl_at h hk)
  simp only [List.getElem?_take, List.getElem?_drop] at h1
  exact h1
theorem flF_flL : ∀ (k q : Nat) (s : DevS), flF k q s = if (flL k q s).1 ≠ 0 then flL k q s else fe (flL k q s).2
  | 0, q, s => by rw [flF_zero]; show _ = if (0 : Int) ≠ 0 then _ else fe s; rw [if_neg (by simp)]
  | k + 1, q, s => by
    show (if (fl1 ((q * 64 : Nat) : Int) s).1 ≠ 0 then fl1 ((q * 64 : Nat) : Int) s else flF k (q + 1) (fl1 ((q * 64 : Nat) : Int) s).2) = _
    have e : flL (k + 1) q s = if (fl1 ((q * 64 : Nat) : Int) s).1 ≠ 0 then fl1 ((q * 64 : Nat) : Int) s else flL k (q + 1) (fl1 ((q * 64 : Nat) : Int) s).2 := rfl
    rw [e]
    by_cases h : (fl1 ((q * 64 : Nat) : Int) s).1 ≠ 0
    · rw [if_pos h, if_pos h, if_pos h]
    · rw [if_neg h, if_neg h]; exact flF_flL k (q + 1) _
theorem range_last {p m : Nat} {s : DevS} (ho : s.off = false) (hm : 1 ≤ m) (hi : p + m ≤ s.ls.length * 64) : rangeP ((p : Nat) : Int) ((m : Nat) : Int) s = if (flushX p m s).1 ≠ 0 then flushX p m s else fe (flushX p m s).2 := by
  unfold rangeP
  rw [if_neg (by rw [ho]; decide), if_neg oqz, rdy_ok oqz oqz oqz, if_neg (by decide), Int.toNat_natCast, Int.toNat_natCast]
  unfold lastS flushX
  exact flF_flL _ _ _
theorem range_e {p m : Nat} {s s2 : DevS} {e : Int} (ho : s.off = false) (hm : 1 ≤ m) (hi : p + m ≤ s.ls.length * 64) (h : flushX p m s = (e, s2)) (he : e ≠ 0) : rangeP ((p : Nat) : Int) ((m : Nat) : Int) s = (e, s2) := by
  rw [range_last ho hm hi, h, if_pos he]
theorem range_o {p m : Nat} {s s2 s3 : DevS} {e : Int} (ho : s.off = false) (hm : 1 ≤ m) (hi : p + m ≤ s.ls.length * 64) (h : flushX p m s = (0, s2)) (h2 : fe s2 = (e, s3)) : rangeP ((p : Nat) : Int) ((m : Nat) : Int) s = (e, s3) := by
  rw [range_last ho hm hi, h, if_neg (by simp), h2]
theorem back_e1 {x : Nat × List Nat} {s s2 : DevS} {e : Int} (h : sto (x.1 : Nat) x.2 s = (e, s2)) (he : e ≠ 0) : backS x s = (e, s2) := by unfold backS; rw [h, if_pos he]
theorem back_e2 {x : Nat × List Nat} {s s1 s2 : DevS} {e : Int} (h : sto (x.1 : Nat) x.2 s = (0, s1)) (h2 : flushX x.1 x.2.length s1 = (e, s2)) : backS x s = (e, s2) := by unfold backS; rw [h, if_neg (by simp), h2]
attribute [local irreducible] crk crL crc Sl pt ro Dev RDev imgS recS readS recsF rdW rdO rkT Parts rvl recordsS
set_option maxRecDepth 20000 in
set_option maxHeartbeats 2000000 in
theorem rRecords_c {A R : SP} {C : SP → SP} {r : Nat} {s : DevS} (hc : Ct A (RDev r s) R C := by repeat (first | with_reducible exact ct_here | apply ct_left)) {bk at_ sz : Nat} (hl : Has R bk (cl (lcs11 r at_ sz) 96) := by (repeat (first | assumption | with_reducible exact has_here | with_reducible exact has_pt | apply has_left))) (hlw : LogW (s.ls.length * 64) at_ sz := by assumption) :
    Fn Tryz.prog 34 #[.pointer (some ⟨bk, 0, none⟩)] (A) (fun r_ B => ∃ a2 c2 vs, r_ = .tuple #[.slice a2 (recordsS at_ sz s).1.length c2, .int .i64 (recordsS at_ sz s).2] ∧ (recordsS at_ sz s).1.length ≤ c2 ∧ vs.length = (recordsS at_ sz s).1.length ∧ B = C (RDev r s) * Parts vs ((recordsS at_ sz s).1.map (·.2)) * Sl 2 (.slice a2 (recordsS at_ sz s).1.length c2) (recordsS at_ sz s).1.length (kcl (recordsS at_ sz s).1 vs)) := by
  refine fn_enterW (args := [.pointer (some ⟨bk, 0, none⟩)]) Tryz.func34 rfl Tryz.ntmps34 (by simp) ?_; refine tc_have (fun _ _ h => wfR_ct hc h) fun hw => ?_
  have htop := hw.top
  have hpos := hw.pos
  obtain ⟨rfl, hC⟩ := hc
  have hAC : ∀ g w, sat g w (R * RDev r s) → sat g w (C (RDev r s)) := fun g w h => by rw [hC]; exact h
  have hlw9 := hlw
  obtain ⟨w1, w2, w3, w4, w5⟩ := hlw9
  refine sr ?_; refine tla ?_; refine tla ?_; refine nq ?_; refine tc_seq ?_; refine sr ?_; refine tlm ?_; refine tv (o_nilCheck rfl) ?_; refine tv (o_fieldAddr (o := 0) Tryz.underlying96 rfl rfl sz33 rfl) ?_; refine tv (o_load p33 rfl haqz rfl) ?_; refine tv (o_nilCheck rfl) ?_; refine tv (o_fieldAddr (o := 5) Tryz.underlying55 rfl rfl sz4 rfl) ?_; refine tv (o_loadC (b := r) p4 rfl (by repeat (first | exact cellR5 | apply Cell.left))) ?_; refine nq ?_; refine tc_cond rfl (fun h => ?_) (fun h => ?_)
  · try simp only [lv1, lv2, lv3, lv4, lv5, lv6, Bool.not_true, Bool.not_false] at h
    refine sr ?_; refine tla ?_; refine tla ?_; refine nq ?_; refine tc_ret ?_; refine q_then_r ?_
    have e0 : recordsS at_ sz s = ([], 5) := by unfold recordsS; rw [if_pos h]
    rw [e0]
    exact ⟨.tuple #[.slice none 0 0, .int .i64 (5)], C (RDev r s) * Parts [] [] * Sl 2 (.slice none 0 0) 0 [], res2 rfl rfl rfl, fun _ _ h => sl_nil (show sat _ _ (C (RDev r s) * Parts [] []) by rw [hC, show Parts [] [] = emp by unfold Parts; rfl, star_emp]; exact Dr.sat (A' := R * RDev r s) drqz _ _ h), none, 0, [], rfl, Nat.le_refl _, rfl, rfl⟩
  · have ho : s.off = false := by simpa using h
    have hw2 := word_in (p := at_) ho oqz oqz
    obtain ⟨v, hv⟩ : ∃ v, (wordP (at_ : Nat) s).1 = v := ⟨_, rfl⟩
    have hvl : v < 18446744073709551616 := by rw [← hv, hw2]; exact nm8_lt fun x hx => img_lt x (List.mem_of_mem_drop hx)
    have hv2 : nm (((imgS s).drop at_).take 8) = v := by rw [← hv, hw2]
    obtain ⟨room, hroom⟩ : ∃ room, roomS at_ sz s = room := ⟨_, rfl⟩
    have hil := imgS_len hw
    have hrl : room.length = sz - 64 := by rw [← hroom]; unfold roomS; rw [List.length_take, List.length_drop, hil]; omega
    have hrec : recordsS at_ sz s = recsF (s.ls.length * 64) at_ sz room v 0 := by unfold recordsS; rw [if_neg (by rw [ho]; decide), hv, hroom]
    refine tc_skip ?_; refine q_then_n ?_; refine sr ?_; refine tlm ?_; refine tlm ?_; refine tv (o_nilCheck rfl) ?_; refine tv (o_fieldAddr (o := 1) Tryz.underlying96 rfl rfl sz3 rfl) ?_; refine tv (o_load p3 rfl haqz rfl) ?_; refine tl_c rfl (o_call bd70 rfl (rnum_c (s := s) (q := at_))) ?_; rintro _ _ ⟨rfl, rfl⟩; refine tl_env (d := 23) (v := .int .u64 (v : Nat)) (by show Value.int .u64 ((nm (((imgS s).drop at_).take 8) : Nat) : Int) = _; rw [hv2]) ?_; refine tla ?_; refine nq ?_; refine tc_seq ?_; refine sr ?_; refine tlm ?_; refine tlm ?_; refine tv (o_nilCheck rfl) ?_; refine tv (o_fieldAddr (o := 2) Tryz.underlying96 rfl rfl sz3 rfl) ?_; refine tv (o_load p3 rfl haqz rfl) ?_; refine tv (by first | exact o_conv64 Tryz.underlying3 Tryz.underlying66 rfl | exact o_conv Tryz.underlying3 Tryz.underlying66 rfl) ?_; refine tl_env (d := 29) (v := .int .u64 ((sz : Nat) : Int)) (congrArg (fun z : Nat => Value.int .u64 (z : Int)) (Nat.mod_eq_of_lt oqz)) ?_; refine tv (o_gtr rfl rfl) ?_; refine nq ?_; refine tc_cond rfl (fun h => ?_) (fun h => ?_)
    · have hbig : sz < v := by first | omega | (simp at h; omega)
      refine sr ?_; refine tla ?_; refine tla ?_; refine nq ?_; refine tc_ret ?_; refine q_then_r ?_
      have e0 : recordsS at_ sz s = ([], 110) := by rw [hrec]; exact recsF_big oqz oqz
      rw [e0]
      exact ⟨.tuple #[.slice none 0 0, .int .i64 (110)], C (RDev r s) * Parts [] [] * Sl 2 (.slice none 0 0) 0 [], res2 rfl rfl rfl, fun _ _ h => sl_nil (show sat _ _ (C (RDev r s) * Parts [] []) by rw [hC, show Parts [] [] = emp by unfold Parts; rfl, star_emp]; exact Dr.sat (A' := R * RDev r s) drqz _ _ h), none, 0, [], rfl, Nat.le_refl _, rfl, rfl⟩
    · have hbig : ¬ sz < v := by first | omega | (simp at h; omega)
      refine tc_skip ?_; refine q_then_n ?_; refine sr ?_; refine tla ?_; refine nq ?_; refine sr ?_; refine tlm ?_; refine tv (o_nilCheck rfl) ?_; refine tv (o_fieldAddr (o := 1) Tryz.underlying96 rfl rfl sz3 rfl) ?_; refine tv (o_load p3 rfl haqz rfl) ?_; refine tv adqz ?_; refine tl_env (d := 35) (v := .int .i64 ((at_ + 64 + 0 : Nat) : Int)) (by first | rfl | (show Value.int .i64 _ = _; congr 1; omega)) ?_; refine tla ?_; refine nq ?_; refine tc_seq ?_; refine sr ?_; refine tla ?_; refine nq ?_; refine tc_block ?_; refine tc_pre (A' := R * RDev r s * Parts [] [] * Sl 2 (.slice none 0 0) 0 []) (fun _ _ h => sl_nil (show sat _ _ (R * RDev r s * Parts [] []) by rw [show Parts [] [] = emp by unfold Parts; rfl, star_emp]; exact h)) ?_; refine tc_loop (fun kk ρ BB => ∃ (i : Nat) (p : Nat) (D : List (Nat × List Nat)) (vs : List Value) (a5 : Option Addr) (c5 : Nat), (cat D (recsF (s.ls.length * 64) at_ sz room (v - i) p) = recordsS at_ sz s) ∧ (p ≤ sz - 64) ∧ (D.length = i) ∧ (vs.length = i) ∧ (i ≤ c5) ∧ (i ≤ v) ∧ (24 * i ≤ p) ∧ kk = v - i ∧ ρ 5 = .slice a5 i c5 ∧ ρ 6 = .int .i64 ((at_ + 64 + p : Nat) : Int) ∧ ρ 7 = .int .i64 (i : Nat) ∧ ρ 0 = .pointer (some ⟨bk, 0, none⟩) ∧ ρ 4 = .int .u64 (v : Nat) ∧ Dr BB (R * RDev r s * Parts vs (D.map (·.2)) * Sl 2 (.slice a5 i c5) i (kcl D vs))) (m := v - (0)) ?_ ?_
      · exact ⟨0, 0, [], [], none, 0, by rw [hrec, cat_nil, Nat.sub_zero], by omega, rfl, rfl, by omega, by omega, by omega, rfl, rfl, rfl, rfl, rfl, rfl, drqz⟩
      · intro k ρ B hI
        obtain ⟨i, p, D, vs, a5, c5, hp0, hp1, hp2, hp3, hp4, hp5, hp6, hkk1, hE5, hE6, hE7, hE0, hE4, hBA⟩ := hI
        refine tc_pre hBA.sat ?_
        clear hBA
        refine tc_env (d := 5) hE5 ?_; refine tc_env (d := 6) hE6 ?_; refine tc_env (d := 7) hE7 ?_; refine tc_env (d := 0) hE0 ?_; refine tc_env (d := 4) hE4 ?_
        clear hE5 hE6 hE7 hE0 hE4
        refine tc_seq ?_; refine sr ?_; refine tlm ?_; refine tlm ?_; refine tv (o_conv Tryz.underlying66 Tryz.underlying3 rfl) ?_; refine tl_env (d := 38) (v := .int .i64 (v : Nat)) (by show Value.int .i64 (IntKind.i64.wrap _) = _; rw [wr_i64 oqz]) ?_; refine tv (o_lss rfl rfl) ?_; refine nq ?_; refine tc_cond rfl (fun h => ?_) (fun h => ?_)
        · have hj : i < v := by first | omega | (simp at h; omega)
          refine tc_skip ?_; refine q_then_n ?_; refine tc_seq ?_; refine tc_block ?_; refine sr ?_; refine tlm ?_; refine tlm ?_; refine tl_c rfl (o_call bd77 rfl (rread_c (s := s) (q := at_ + 64 + p) (p := p) (room := room))) ?_; rintro _ _ ⟨a45, c45, rfl, hc45, rfl⟩; refine tlm ?_; refine tv (o_extract rfl rfl) ?_; refine tv (o_extract rfl rfl) ?_; refine tv (o_extract rfl rfl) ?_; refine tl_x rfl (o_alloc z92 rfl) ?_; rintro _ _ ⟨b8, rfl, rfl⟩; refine tl_u rfl (o_stUN (l' := [.int .i64 ((rdW (readS (s.ls.length * 64) at_ sz room p) : Nat) : Int), (.slice a45 (rdO (readS (s.ls.length * 64) at_ sz room p)).length c45)]) rfl upqz sz92 rfl rfl rfl (by show 2 ≤ 2; decide) rfl) ?_; refine tla ?_; refine tla ?_; refine nq ?_; refine tc_seq ?_; refine sr ?_; refine tlm ?_; refine tv (o_not rfl) ?_; refine nq ?_; refine tc_cond rfl (fun h => ?_) (fun h => ?_)
          · have hrd : (readS (s.ls.length * 64) at_ sz room p) = none := by rcases hq9 : (readS (s.ls.length * 64) at_ sz room p) with _ | x; rfl; rw [hq9] at h; simp at h
            refine sr ?_; refine tla ?_; refine tla ?_; refine nq ?_; refine tc_ret ?_; refine q_then_r (q_block_r (q_then_r (q_then_r (q_block_r (q_then_r ?_)))))
            have e0 : recordsS at_ sz s = ([], 110) := by rw [← hp0, recs_none hrd oqz]
            rw [e0]
            exact ⟨.tuple #[.slice none 0 0, .int .i64 (110)], C (RDev r s) * Parts [] [] * Sl 2 (.slice none 0 0) 0 [], res2 rfl rfl rfl, fun _ _ h => sl_nil (show sat _ _ (C (RDev r s) * Parts [] []) by rw [hC, show Parts [] [] = emp by unfold Parts; rfl, star_emp]; exact Dr.sat (A' := R * RDev r s) drqz _ _ h), none, 0, [], rfl, Nat.le_refl _, rfl, rfl⟩
          · have hrd := rd_some (o := (readS (s.ls.length * 64) at_ sz room p)) (by simpa using h)
            have hrm := read_room hrd
            refine tc_skip ?_; refine q_then_n ?_; refine sr ?_; refine tlm ?_; refine tv (o_loadN (vs := [.int .i64 ((rdW (readS (s.ls.length * 64) at_ sz room p) : Nat) : Int), (.slice a45 (rdO (readS (s.ls.length * 64) at_ sz room p)).length c45)]) a92 sz92 rfl hsqz (by show 2 ≤ 2; decide) rfl) ?_; refine tl_x rfl (o_buildSliceK (k := 2) (l := [.int .i64 ((rdW (readS (s.ls.length * 64) at_ sz room p) : Nat) : Int), (.slice a45 (rdO (readS (s.ls.length * 64) at_ sz room p)).length c45)]) Tryz.underlying84 sz92 z92 rfl rfl (by decide)) ?_; rintro _ _ ⟨b53, rfl, rfl⟩; refine tl_x rfl (o_apB Tryz.underlying84 Tryz.underlying84 sz92 by92 z92 rfl (by decide) (by decide) rfl rfl rfl ctqz rfl rfl oqz (show _ = kcl (D ++ [(rdW (readS (s.ls.length * 64) at_ sz room p), rdO (readS (s.ls.length * 64) at_ sz room p))]) (vs ++ [(.slice a45 (rdO (readS (s.ls.length * 64) at_ sz room p)).length c45)]) by rw [kcl_snoc oqz])) ?_; rintro _ _ ⟨a54, c54, rfl, hc54, rfl⟩
            have hps : Parts (vs ++ [(.slice a45 (rdO (readS (s.ls.length * 64) at_ sz room p)).length c45)]) ((D ++ [(rdW (readS (s.ls.length * 64) at_ sz room p), rdO (readS (s.ls.length * 64) at_ sz room p))]).map (·.2)) = Parts vs (D.map (·.2)) * Sl 1 (.slice a45 (rdO (readS (s.ls.length * 64) at_ sz room p)).length c45) (rdO (readS (s.ls.length * 64) at_ sz room p)).length (bys (rdO (readS (s.ls.length * 64) at_ sz room p))) := by rw [List.map_append]; exact parts_snoc (by rw [List.length_map]; omega)
            refine tl_eq (show _ = R * RDev r s * Parts (vs ++ [(.slice a45 (rdO (readS (s.ls.length * 64) at_ sz room p)).length c45)]) ((D ++ [(rdW (readS (s.ls.length * 64) at_ sz room p), rdO (readS (s.ls.length * 64) at_ sz room p))]).map (·.2)) * Sl 2 (.slice a54 (i + 1) c54) (i + 1) (kcl (D ++ [(rdW (readS (s.ls.length * 64) at_ sz room p), rdO (readS (s.ls.length * 64) at_ sz room p))]) (vs ++ [(.slice a45 (rdO (readS (s.ls.length * 64) at_ sz room p)).length c45)])) * pt b8 (cl ([.int .i64 ((rdW (readS (s.ls.length * 64) at_ sz room p) : Nat) : Int), (.slice a45 (rdO (readS (s.ls.length * 64) at_ sz room p)).length c45)] : List Value) 92) by rw [hps]; ac_rfl) ?_; refine tla ?_; refine nq ?_; refine tc_reg ?_; refine tlm ?_; refine tlm ?_; refine tv adqz ?_; refine tl_env (d := 57) (v := .int .i64 ((at_ + 64 + (p + rkT (readS (s.ls.length * 64) at_ sz room p)) : Nat) : Int)) (by first | rfl | (show Value.int .i64 _ = _; congr 1; omega)) ?_; refine tla ?_; refine tl_nil ?_; refine q_block_n (q_then_n ?_); refine tc_reg ?_; refine tlm ?_; refine tv adqz ?_; refine tla ?_; refine nq ?_; exact ⟨_, by omega, i + 1, _, D ++ [(rdW (readS (s.ls.length * 64) at_ sz room p), rdO (readS (s.ls.length * 64) at_ sz room p))], vs ++ [(.slice a45 (rdO (readS (s.ls.length * 64) at_ sz room p)).length c45)], a54, c54, by rw [show v - (i + 1) = v - i - 1 by omega, ← recs_some hrd oqz]; exact hp0, by omega, by rw [List.length_append, hp2]; rfl, by rw [List.length_append, hp3]; rfl, hc54, by omega, by omega, rfl, rfl, rfl, rfl, rfl, rfl, drqz⟩
        · obtain rfl : i = v := by first | omega | (simp at h; omega)
          refine tc_exit ?_; refine q_then_e (q_then_e (q_block_x (q_then_n ?_))); refine sr ?_; refine tlm ?_; refine tla ?_; refine tla ?_; refine nq ?_; refine tc_ret ?_
          have e0 : recordsS at_ sz s = (D, 0) := by rw [← hp0, Nat.sub_self]; unfold recsF cat; rw [if_neg (by simp), List.append_nil]
          rw [e0]
          exact ⟨.tuple #[.slice a5 i c5, .int .i64 0], R * RDev r s * Parts vs (D.map (·.2)) * Sl 2 (.slice a5 i c5) i (kcl D vs), res2 rfl rfl rfl, Dr.sat drqz, a5, c5, vs, by rw [hp2], by rw [hp2]; exact hp4, by rw [hp3]; exact hp2.symm, by rw [hC]; simp only []; rw [hp2]⟩
theorem rRecords_w {A R : SP} {C : SP → SP} {r : Nat} {s : DevS} (hc : Ct A (RDev r s) R C := by repeat (first | with_reducible exact ct_here | apply ct_left)) {bk at_ sz : Nat} (hl : Has R bk (cl (lcs11 r at_ sz) 96) := by (repeat (first | assumption | with_reducible exact has_here | with_reducible exact has_pt | apply has_left))) (hlw : LogW (s.ls.length * 64) at_ sz := by assumption) {L : List (Nat × List Nat)} {e : Int} (hX : recordsS at_ sz s = (L, e)) : Fn Tryz.prog 34 #[.pointer (some ⟨bk, 0, none⟩)] A (fun r_ B => ∃ a2 c2 vs, r_ = .tuple #[.slice a2 L.length c2, .int .i64 e] ∧ L.length ≤ c2 ∧ vs.length = L.length ∧ B = C (RDev r s) * Parts vs (L.map (·.2)) * Sl 2 (.slice a2 L.length c2) L.length (kcl L vs)) := by
  have h := rRecords_c hc hl hlw
  rw [hX] at h
  exact h
set_option maxRecDepth 20000 in
set_option maxHeartbeats 2000000 in
theorem rWrite_c {A R : SP} {C : SP → SP} {r : Nat} {s : DevS} (hc : Ct A (RDev r s) R C := by repeat (first | with_reducible exact ct_here | apply ct_left)) {bk at_ sz : Nat} (hl : Has R bk (cl (lcs11 r at_ sz) 96) := by (repeat (first | assumption | with_reducible exact has_here | with_reducible exact has_pt | apply has_left))) (hlw : LogW (s.ls.length * 64) at_ sz := by assumption) {a : Option Addr} {c m : Nat} {xs : List (Int × Int)} (hr : Rs R a (xcl xs) := by repeat (first | assumption | with_reducible exact rs_sl | with_reducible exact rs_pt0 | exact rs_none | apply Rs.left)) (hm : xs.length = m := by first | assumption | rfl) (hX : ∀ x ∈ xs, XW x := by assumption) (hml : m ≤ 17592186044416 := by omega) (hroom : Room (sz + 1) s := by assumption) :
    Fn Tryz.prog 30 #[.pointer (some ⟨bk, 0, none⟩), .slice a m c] (A) (fun r_ B => ∃ e s2, writeS at_ sz xs s = (e, s2) ∧ r_ = .int .i64 e ∧ B = C (RDev r s2)) := by
  refine fn_enterW (args := [.pointer (some ⟨bk, 0, none⟩), .slice a m c]) Tryz.func30 rfl Tryz.ntmps30 (by simp) ?_; refine tc_have (fun _ _ h => wfR_ct hc h) fun hw => ?_
  have htop := hw.top
  have hpos := hw.pos
  obtain ⟨rfl, hC⟩ := hc
  have hAC : ∀ g w, sat g w (R * RDev r s) → sat g w (C (RDev r s)) := fun g w h => by rw [hC]; exact h
  have hlw9 := hlw
  obtain ⟨w1, w2, w3, w4, w5⟩ := hlw9
  refine sr ?_; refine tla ?_; refine nq ?_; refine tc_seq ?_; refine sr ?_; refine tlm ?_; refine tv (o_nilCheck rfl) ?_; refine tv (o_fieldAddr (o := 0) Tryz.underlying96 rfl rfl sz33 rfl) ?_; refine tv (o_load p33 rfl haqz rfl) ?_; refine tv (o_nilCheck rfl) ?_; refine tv (o_fieldAddr (o := 5) Tryz.underlying55 rfl rfl sz4 rfl) ?_; refine tv (o_loadC (b := r) p4 rfl (by repeat (first | exact cellR5 | apply Cell.left))) ?_; refine nq ?_; refine tc_cond rfl (fun h => ?_) (fun h => ?_)
  · try simp only [lv1, lv2, lv3, lv4, lv5, lv6, Bool.not_true, Bool.not_false] at h
    refine sr ?_; refine tla ?_; refine nq ?_; refine tc_ret ?_; refine q_then_r ?_; exact ⟨.int .i64 (5), C (RDev r s), res1 rfl rfl, fun _ _ h => by rw [hC]; exact (Dr.sat (A' := R * RDev r s) drqz) _ _ h, 5, s, by unfold writeS; rw [if_pos h], rfl, rfl⟩
  · have ho : s.off = false := by simpa using h
    have hw2 := word_in (p := at_) ho oqz oqz
    obtain ⟨v, hv⟩ : ∃ v, (wordP (at_ : Nat) s).1 = v := ⟨_, rfl⟩
    have hvl : v < 18446744073709551616 := by rw [← hv, hw2]; exact nm8_lt fun x hx => img_lt x (List.mem_of_mem_drop hx)
    have hv2 : nm (((imgS s).drop at_).take 8) = v := by rw [← hv, hw2]
    refine tc_skip ?_; refine q_then_n ?_; refine tc_seq ?_; refine sr ?_; refine tlm ?_; refine tlm ?_; refine tv (o_nilCheck rfl) ?_; refine tv (o_fieldAddr (o := 1) Tryz.underlying96 rfl rfl sz3 rfl) ?_; refine tv (o_load p3 rfl haqz rfl) ?_; refine tl_c rfl (o_call bd70 rfl (rnum_c (s := s) (q := at_))) ?_; rintro _ _ ⟨rfl, rfl⟩; refine tl_env (d := 26) (v := .int .u64 (v : Nat)) (by show Value.int .u64 ((nm (((imgS s).drop at_).take 8) : Nat) : Int) = _; rw [hv2]) ?_; refine tv (o_nei rfl rfl) ?_; refine nq ?_; refine tc_cond rfl (fun h => ?_) (fun h => ?_)
    · have hv0 : v ≠ 0 := by first | (have h9 := of_decide_eq_true h; omega) | (simp at h; omega)
      refine sr ?_; refine tla ?_; refine nq ?_; refine tc_ret ?_; refine q_then_r ?_; exact ⟨.int .i64 (3), C (RDev r s), res1 rfl rfl, fun _ _ h => by rw [hC]; exact (Dr.sat (A' := R * RDev r s) drqz) _ _ h, 3, s, by unfold writeS; rw [if_neg (by rw [ho]; decide), if_pos (by rw [hv]; exact hv0)], rfl, rfl⟩
    · have hv0 : ¬ v ≠ 0 := by first | (have h9 := of_decide_eq_false h; omega) | (simp at h; omega)
      refine tc_skip ?_; refine q_then_n ?_; refine sr ?_; refine tla ?_; refine nq ?_; refine tc_seq ?_; refine sr ?_; refine tla ?_; refine nq ?_; refine tc_block ?_; refine tc_pre (A' := R * RDev r s * Sl 1 (.slice none 0 0) 0 (ints (lensX (xs.take 0)))) (fun _ _ h => sl_nil h) ?_; refine tc_loop (fun kk ρ BB => ∃ (i : Nat) (a5 : Option Addr) (c5 : Nat), (i ≤ m) ∧ ((xs.take i).all (mayX (s.ls.length * 64) at_ sz) = true) ∧ (i ≤ c5) ∧ kk = m - i ∧ ρ 5 = .slice a5 i c5 ∧ ρ 6 = .int .i64 (i : Nat) ∧ ρ 0 = .pointer (some ⟨bk, 0, none⟩) ∧ ρ 1 = .slice a m c ∧ Dr BB (R * RDev r s * Sl 1 (.slice a5 i c5) i (ints (lensX (xs.take i))))) (m := m - (0)) ?_ ?_
      · exact ⟨0, none, 0, by omega, rfl, by omega, rfl, rfl, rfl, rfl, rfl, drqz⟩
      · intro k ρ B hI
        obtain ⟨i, a5, c5, hp0, hp1, hp2, hkk1, hE5, hE6, hE0, hE1, hBA⟩ := hI
        refine tc_pre hBA.sat ?_
        clear hBA
        refine tc_env (d := 5) hE5 ?_; refine tc_env (d := 6) hE6 ?_; refine tc_env (d := 0) hE0 ?_; refine tc_env (d := 1) hE1 ?_
        clear hE5 hE6 hE0 hE1
        refine tc_seq ?_; refine sr ?_; refine tlm ?_; refine tlm ?_; refine tv (o_len Tryz.underlying47 rfl) ?_; refine tv (o_lss rfl rfl) ?_; refine nq ?_; refine tc_cond rfl (fun h => ?_) (fun h => ?_)
        · have hi : i < xs.length := by first | omega | (simp at h; omega)
          obtain ⟨x, hx1⟩ : ∃ x, xs[i] = x := ⟨_, rfl⟩
          have hxw : XW x := hX x (hx1 ▸ List.getElem_mem hi)
          refine tc_skip ?_; refine q_then_n ?_; refine tc_seq ?_; refine tc_block ?_; refine tc_seq ?_; refine sr ?_; refine tlm ?_; refine tlm ?_; refine tlm ?_; refine tv (o_ixP (a := a) Tryz.underlying47 sz82 rfl rfl oqz (nn_rs sq4z (fun _ => by rw [xcl_len]; omega))) ?_; refine tv (o_ldPN (a := a) (xs := xcl xs) (vs := xcs x) a82 sz82 rfl sq4z (by rw [xcl_at oqz, hx1]) rfl (by decide)) ?_; refine tl_c rfl (o_call bd71 rfl (rMay11_c (s := s) (x := x))) ?_; rintro _ _ ⟨rfl, rfl⟩; refine tv (o_not rfl) ?_; refine nq ?_; refine tc_cond rfl (fun h => ?_) (fun h => ?_)
          · have hmy : mayX (s.ls.length * 64) at_ sz x = false := by simpa using h
            refine sr ?_; refine tla ?_; refine nq ?_; refine tc_ret ?_; refine q_then_r (q_block_r (q_then_r (q_then_r (q_block_r (q_then_r ?_))))); exact ⟨.int .i64 (6), C (RDev r s), res1 rfl rfl, fun _ _ h => by rw [hC]; exact (Dr.sat (A' := R * RDev r s) drqz) _ _ h, 6, s, by unfold writeS; rw [if_neg (by rw [ho]; decide), if_neg (by rw [hv]; exact hv0), if_pos (all_not hi (by rw [hx1]; exact hmy))], rfl, rfl⟩
          · have hmy : mayX (s.ls.length * 64) at_ sz x = true := by simpa using h
            refine tc_skip ?_; refine q_then_n ?_; refine tc_reg ?_; refine tlm ?_; refine tlm ?_; refine tlm ?_; refine tv (o_ixP (a := a) Tryz.underlying47 sz82 rfl rfl oqz (nn_rs sq4z (fun _ => by rw [xcl_len]; omega))) ?_; refine tv (o_faP (a := a) (m := 0) (o := 1) Tryz.underlying82 rfl rfl sz3 rfl (nn_rs sq4z (fun _ => by rw [xcl_len]; omega))) ?_; refine tv (o_ldP (a := a) (xs := xcl xs) p3 rfl sq4z (by rw [xcl_at1 oqz, hx1])) ?_; refine tl_x rfl (o_buildSlice1 Tryz.underlying48 sz3 z3 (by conv => lhs; whnf) rfl) ?_; rintro _ _ ⟨b47, rfl, rfl⟩; refine tl_x rfl (o_apB Tryz.underlying48 Tryz.underlying48 sz3 by3 z3 rfl (by decide) (by decide) rfl rfl rfl ctqz rfl (by first | exact bys_all _ | exact ints_all _ | exact wds_all _ | exact bos_all _ | rfl) sq1z (by first | exact bys_sn _ _ | exact ints_sn _ _ | exact wds_sn _ _ | exact bos_sn _ _ | exact (bys_append _ _).symm | rfl)) ?_; rintro _ _ ⟨a48, c48, rfl, hc48, rfl⟩
            refine tla ?_; refine tl_nil ?_; refine q_block_n (q_then_n ?_); refine tc_reg ?_; refine tlm ?_; refine tv adqz ?_; refine tla ?_; refine nq ?_; exact ⟨_, by omega, i + 1, _, _, by omega, all_take hi hp1 (by rw [hx1]; exact hmy), hc48, rfl, rfl, rfl, rfl, rfl, by rw [lensX_succ hi, hx1]; repeat (first | with_reducible exact dr_refl | apply dr_keep | apply dr_drop)⟩
        · obtain rfl : i = m := by first | omega | (simp at h; omega)
          have htk : xs.take i = xs := List.take_of_length_le oqz
          rw [htk] at hp1
          refine tc_pre (A' := R * RDev r s * Sl 1 (.slice a5 i c5) i (ints (lensX xs))) (fun _ _ h => by rw [htk] at h; exact h) ?_
          obtain ⟨nd, en, hnd⟩ : ∃ nd en, needS (lensX xs) = (nd, en) := ⟨_, _, rfl⟩
          have hxl : ∀ x ∈ lensX xs, -9223372036854775808 ≤ x ∧ x ≤ 9223372036854775807 := fun x hx => by obtain ⟨y, hy, rfl⟩ := List.mem_map.1 hx; exact (hX y hy).l
          have hx1 : ∀ x ∈ xs, 1 ≤ x.2 := fun x hx => by obtain ⟨p, n, rfl, _, hn, _⟩ := may_nat (List.all_eq_true.1 hp1 x hx); show (1 : Int) ≤ (n : Int); omega
          have hnd2 : en = 0 → nd = (needN xs : Nat) := fun h9 => by have := needF_ok hx1 hnd h9; omega
          refine tc_exit ?_; refine q_then_e (q_then_e (q_block_x (q_then_n ?_))); refine sr ?_; refine tlm ?_; refine tl_c rfl (o_call bd72 rfl (rNeed_c (xs := lensX xs) (hr := rs_sl) (hm := (lensX_len xs).trans hm) (hx := hxl))) ?_; rintro _ _ ⟨rfl, rfl⟩; refine tlm ?_; refine tv (o_extract rfl rfl) ?_; refine tl_env (d := 52) (v := .int .i64 nd) (by show Value.int .i64 (needS (lensX xs)).1 = _; rw [hnd]) ?_; refine tv (o_extract rfl rfl) ?_; refine tl_env (d := 53) (v := .int .i64 en) (by show Value.int .i64 (needS (lensX xs)).2 = _; rw [hnd]) ?_; refine tla ?_; refine tla ?_; refine nq ?_; refine tc_seq ?_; refine tc_seq ?_; refine tc_cut (fun ρ BB => ∃ (bb : Bool), (bb = decide (en ≠ 0 ∨ ((sz - 64 : Nat) : Int) < nd)) ∧ ρ 64 = .bool bb ∧ ρ 0 = .pointer (some ⟨bk, 0, none⟩) ∧ ρ 1 = .slice a i c ∧ ρ 7 = .int .i64 nd ∧ Dr BB (R * RDev r s)) ?_ ?_
          · skip
            refine tc_reg ?_; refine tlm ?_; refine tv (o_nei rfl rfl) ?_; refine tlm ?_; refine tl_bool (d := 56) rfl (fun h => ?_) (fun h => ?_)
            · have g56 : (en ≠ 0) := by first | exact of_decide_eq_true h | (have h2 := h; simp at h2; omega) | simpa using h
              refine tk ?_; refine tk ?_; refine tk ?_; refine tk ?_; refine tk ?_; refine tk ?_; refine tk ?_; refine tv (o_pick_t rfl (by conv => lhs; whnf)) ?_; refine tl_nil ?_; exact ⟨_, by first | exact (decide_eq_true oqz).symm | exact (decide_eq_false oqz).symm | (rw [decide_eq_decide]; omega), rfl, rfl, rfl, rfl, drqz⟩
            · have g56 : ¬ (en ≠ 0) := by first | exact of_decide_eq_false h | (have h2 := h; simp at h2; omega) | simpa using h
              refine tlm ?_; refine tlm ?_; refine tv (o_nilCheck rfl) ?_; refine tv (o_fieldAddr (o := 2) Tryz.underlying96 rfl rfl sz3 rfl) ?_; refine tv (o_load p3 rfl haqz rfl) ?_; refine tv (o_subI rfl rfl oqz) ?_; refine tl_env (d := 62) (v := .int .i64 ((sz - 64 : Nat) : Int)) (by show Value.int .i64 ((sz : Int) - 64) = _; congr 1; omega) ?_; refine tv (o_gtr rfl rfl) ?_; refine tv (o_pick_f rfl (by conv => lhs; whnf)) ?_; refine tl_nil ?_; exact ⟨_, by first | exact (decide_eq_true oqz).symm | exact (decide_eq_false oqz).symm | (rw [decide_eq_decide]; omega), rfl, rfl, rfl, rfl, drqz⟩
          · intro ρ B hI
            obtain ⟨bb, hbb0, hE64, hE0, hE1, hE7, hBA⟩ := hI
            refine q_then_n ?_; refine tc_pre hBA.sat ?_
            clear hBA
            refine tc_env (d := 64) hE64 ?_; refine tc_env (d := 0) hE0 ?_; refine tc_env (d := 1) hE1 ?_; refine tc_env (d := 7) hE7 ?_
            clear hE64 hE0 hE1 hE7
            refine tc_cond rfl (fun h => ?_) (fun h => ?_)
            · have hful := of_decide_eq_true (show decide (en ≠ 0 ∨ ((sz - 64 : Nat) : Int) < nd) = true by rw [← hbb0]; exact h)
              refine sr ?_; refine tla ?_; refine nq ?_; refine tc_ret ?_; refine q_then_r ?_; exact ⟨.int .i64 (111), C (RDev r s), res1 rfl rfl, fun _ _ h => by rw [hC]; exact (Dr.sat (A' := R * RDev r s) drqz) _ _ h, 111, s, by unfold writeS; rw [if_neg (by rw [ho]; decide), if_neg (by rw [hv]; exact hv0), if_neg (by rw [hp1]; decide), hnd, if_pos hful], rfl, rfl⟩
            · have hful := of_decide_eq_false (show decide (en ≠ 0 ∨ ((sz - 64 : Nat) : Int) < nd) = false by rw [← hbb0]; exact h)
              obtain rfl : en = 0 := by omega
              obtain rfl := hnd2 rfl
              have hN : needN xs ≤ sz - 64 := by omega
              refine tc_skip ?_; refine q_then_n ?_; refine tc_seq ?_; refine sr ?_; refine tlm ?_; refine tv (o_len Tryz.underlying47 rfl) ?_; refine tv (o_eqi rfl rfl) ?_; refine nq ?_; refine tc_cond rfl (fun h => ?_) (fun h => ?_)
              · have hx0 : xs = [] := List.eq_nil_of_length_eq_zero (by first | (have := of_decide_eq_true h; omega) | (simp at h; omega))
                refine sr ?_; refine tla ?_; refine nq ?_; refine tc_ret ?_; refine q_then_r ?_; exact ⟨.int .i64 (0), C (RDev r s), res1 rfl rfl, fun _ _ h => by rw [hC]; exact (Dr.sat (A' := R * RDev r s) drqz) _ _ h, 0, s, by unfold writeS; rw [if_neg (by rw [ho]; decide), if_neg (by rw [hv]; exact hv0), if_neg (by rw [hp1]; decide), hnd, if_neg hful, if_pos hx0], rfl, rfl⟩
              · have hx0 : xs ≠ [] := fun e => by subst e; simp at hm; first | exact of_decide_eq_false h oqz | (simp at h; omega) | omega
                have hxl0 : 0 < xs.length := List.length_pos_iff.2 hx0
                have hN1 := needN_ge xs
                refine tc_skip ?_; refine q_then_n ?_; refine sr ?_; refine tlm ?_; refine tv (o_nilCheck rfl) ?_; refine tv (o_fieldAddr (o := 1) Tryz.underlying96 rfl rfl sz3 rfl) ?_; refine tv (o_load p3 rfl haqz rfl) ?_; refine tv adqz ?_; refine tl_env (d := 72) (v := .int .i64 ((at_ + 64 : Nat) : Int)) (by first | rfl | (show Value.int .i64 _ = _; congr 1; omega)) ?_; refine tla ?_; refine nq ?_; refine tc_seq ?_; refine sr ?_; refine tla ?_; refine nq ?_; refine tc_block ?_; refine tc_loop (fun kk ρ BB => ∃ (j : Nat) (q : Nat) (s1 : DevS), (j ≤ i) ∧ (putF (at_ + 64) xs s = putF q (xs.drop j) s1) ∧ (s1.off = false) ∧ (s1.ls.length = s.ls.length) ∧ (q + needN (xs.drop j) = at_ + 64 + needN xs) ∧ (Room (needN (xs.drop j) + 1) s1) ∧ kk = i - j ∧ ρ 9 = .int .i64 (q : Nat) ∧ ρ 10 = .int .i64 (j : Nat) ∧ ρ 0 = .pointer (some ⟨bk, 0, none⟩) ∧ ρ 1 = .slice a i c ∧ ρ 7 = .int .i64 (needN xs : Nat) ∧ Dr BB (R * RDev r s1)) (m := i - (0)) ?_ ?_
                · exact ⟨0, at_ + 64, s, by omega, rfl, ho, rfl, by rw [List.drop_zero], fun l hl => by have := hroom l hl; rw [List.drop_zero]; omega, rfl, rfl, rfl, rfl, rfl, rfl, drqz⟩
                · intro k ρ B hI
                  obtain ⟨j, q, s1, hq0, hq1, hq2, hq3, hq4, hq5, hkk2, hE9, hE10, hE0, hE1, hE7, hBA⟩ := hI
                  refine tc_pre hBA.sat ?_
                  clear hBA
                  refine tc_env (d := 9) hE9 ?_; refine tc_env (d := 10) hE10 ?_; refine tc_env (d := 0) hE0 ?_; refine tc_env (d := 1) hE1 ?_; refine tc_env (d := 7) hE7 ?_
                  clear hE9 hE10 hE0 hE1 hE7
                  refine tc_seq ?_; refine sr ?_; refine tlm ?_; refine tlm ?_; refine tv (o_len Tryz.underlying47 rfl) ?_; refine tv (o_lss rfl rfl) ?_; refine nq ?_; refine tc_cond rfl (fun h => ?_) (fun h => ?_)
                  · have hj : j < xs.length := by first | omega | (simp at h; omega)
                    obtain ⟨x, hx1⟩ : ∃ x, xs[j] = x := ⟨_, rfl⟩
                    have hmx := all_drop hp1 hj
                    have hdr := List.drop_eq_getElem_cons hj
                    rw [hx1] at hmx hdr
                    obtain ⟨p, n, rfl, y1, y2, y3, y4⟩ := may_nat hmx
                    rw [hdr, needN_cons] at hq4 hq5
                    simp only [Int.toNat_natCast] at hq4 hq5
                    refine tc_have (fun _ _ h => wfR_ct ctqz h) fun hw1 => ?_
                    have hil := imgS_len hw1
                    have hol : (((imgS s1).drop p).take n).length = n := by rw [List.length_take, List.length_drop, hil, hq3]; omega
                    have hrl : (recS p (((imgS s1).drop p).take n)).length = 24 + up8 n := by rw [recS_len, hol]
                    have hrb : ∀ x ∈ recS p (((imgS s1).drop p).take n), x < 256 := recS_b img_sub
                    have hu8 := up8_le n
                    refine tc_skip ?_; refine q_then_n ?_; refine tc_seq ?_; refine tc_block ?_; refine tc_seq ?_; refine tc_regh (S := R) mo drqz ?_
                    show TH _ _ _ _ _ 20 #[ff,ff,ff,ff,ff,ff,ff,ff,ff,ff,ff,ff,ff,ff,ff,ff,ff,ff,ff,ff] _ _
                    refine th_take (i := 0) (listed' := #[tt,ff,ff,ff,ff,ff,ff,ff,ff,ff,ff,ff,ff,ff,ff,ff,ff,ff,ff,ff]) rfl kqz kqz kqz rfl rfl (o_move (by conv => lhs; whnf)) ?_; refine th_take (i := 1) (listed' := #[tt,tt,ff,ff,ff,ff,ff,ff,ff,ff,ff,ff,ff,ff,ff,ff,ff,ff,ff,ff]) rfl kqz kqz kqz rfl rfl (o_nilCheck rfl) ?_; refine th_take (i := 2) (listed' := #[tt,tt,tt,ff,ff,ff,ff,ff,ff,ff,ff,ff,ff,ff,ff,ff,ff,ff,ff,ff]) rfl kqz kqz kqz rfl rfl (o_fieldAddr (o := 0) Tryz.underlying96 rfl rfl sz33 rfl) ?_; refine th_take (i := 3) (listed' := #[tt,tt,tt,tt,ff,ff,ff,ff,ff,ff,ff,ff,ff,ff,ff,ff,ff,ff,ff,ff]) rfl kqz kqz kqz rfl rfl (o_load p33 rfl haqz rfl) ?_; refine th_take (i := 4) (listed' := #[tt,tt,tt,tt,tt,ff,ff,ff,ff,ff,ff,ff,ff,ff,ff,ff,ff,ff,ff,ff]) rfl kqz kqz kqz rfl rfl (o_move (by conv => lhs; whnf)) ?_; refine th_take (i := 5) (listed' := #[tt,tt,tt,tt,tt,tt,ff,ff,ff,ff,ff,ff,ff,ff,ff,ff,ff,ff,ff,ff]) rfl kqz kqz kqz rfl rfl (o_move (by conv => lhs; whnf)) ?_; refine th_take (i := 6) (listed' := #[tt,tt,tt,tt,tt,tt,tt,ff,ff,ff,ff,ff,ff,ff,ff,ff,ff,ff,ff,ff]) rfl kqz kqz kqz rfl rfl (o_ixP (a := a) Tryz.underlying47 sz82 rfl rfl oqz (nn_rs sq4z (fun _ => by rw [xcl_len]; omega))) ?_
                    refine th_take (i := 7) (listed' := #[tt,tt,tt,tt,tt,tt,tt,tt,ff,ff,ff,ff,ff,ff,ff,ff,ff,ff,ff,ff]) rfl kqz kqz kqz rfl rfl (o_faP (a := a) (m := 0) (o := 0) Tryz.underlying82 rfl rfl sz3 rfl (nn_rs sq4z (fun _ => by rw [xcl_len]; omega))) ?_; refine th_take (i := 8) (listed' := #[tt,tt,tt,tt,tt,tt,tt,tt,tt,ff,ff,ff,ff,ff,ff,ff,ff,ff,ff,ff]) rfl kqz kqz kqz rfl rfl (o_ldP (a := a) (xs := xcl xs) p3 rfl sq4z (by rw [xcl_at0 oqz, hx1])) ?_; refine th_take (i := 9) (listed' := #[tt,tt,tt,tt,tt,tt,tt,tt,tt,tt,ff,ff,ff,ff,ff,ff,ff,ff,ff,ff]) rfl kqz kqz kqz rfl rfl (o_move (by conv => lhs; whnf)) ?_; refine th_take (i := 10) (listed' := #[tt,tt,tt,tt,tt,tt,tt,tt,tt,tt,tt,ff,ff,ff,ff,ff,ff,ff,ff,ff]) rfl kqz kqz kqz rfl rfl (o_move (by conv => lhs; whnf)) ?_; refine th_take (i := 11) (listed' := #[tt,tt,tt,tt,tt,tt,tt,tt,tt,tt,tt,tt,ff,ff,ff,ff,ff,ff,ff,ff]) rfl kqz kqz kqz rfl rfl (o_ixP (a := a) Tryz.underlying47 sz82 rfl rfl oqz (nn_rs sq4z (fun _ => by rw [xcl_len]; omega))) ?_; refine th_take (i := 12) (listed' := #[tt,tt,tt,tt,tt,tt,tt,tt,tt,tt,tt,tt,tt,ff,ff,ff,ff,ff,ff,ff]) rfl kqz kqz kqz rfl rfl (o_faP (a := a) (m := 0) (o := 1) Tryz.underlying82 rfl rfl sz3 rfl (nn_rs sq4z (fun _ => by rw [xcl_len]; omega))) ?_
                    refine th_take (i := 13) (listed' := #[tt,tt,tt,tt,tt,tt,tt,tt,tt,tt,tt,tt,tt,tt,ff,ff,ff,ff,ff,ff]) rfl kqz kqz kqz rfl rfl (o_ldP (a := a) (xs := xcl xs) p3 rfl sq4z (by rw [xcl_at1 oqz, hx1])) ?_; refine th_one (i := 14) kqz ?_; refine oh_c (i := 14) (listed' := #[tt,tt,tt,tt,tt,tt,tt,tt,tt,tt,tt,tt,tt,tt,tt,ff,ff,ff,ff,ff]) rfl rfl rfl (o_call bd73 rfl (rLoad_c (s := s1) (p := p) (m := n))) ?_; rintro _ _ ⟨a94, c94, rfl, hc94, rfl⟩; refine ⟨by repeat (first | with_reducible exact dr_refl | apply dr_keep | apply dr_drop), ?_⟩; refine th_take (i := 15) (listed' := #[tt,tt,tt,tt,tt,tt,tt,tt,tt,tt,tt,tt,tt,tt,tt,tt,ff,ff,ff,ff]) rfl kqz kqz kqz rfl rfl (o_move (by conv => lhs; whnf)) ?_; refine th_take (i := 16) (listed' := #[tt,tt,tt,tt,tt,tt,tt,tt,tt,tt,tt,tt,tt,tt,tt,tt,tt,ff,ff,ff]) rfl kqz kqz kqz rfl rfl (o_extract rfl rfl) ?_; refine th_take (i := 17) (listed' := #[tt,tt,tt,tt,tt,tt,tt,tt,tt,tt,tt,tt,tt,tt,tt,tt,tt,tt,ff,ff]) rfl kqz kqz kqz rfl rfl (o_extract rfl rfl) ?_; refine th_take (i := 18) (listed' := #[tt,tt,tt,tt,tt,tt,tt,tt,tt,tt,tt,tt,tt,tt,tt,tt,tt,tt,tt,ff]) rfl kqz kqz kqz rfl rfl (o_assign (by conv => lhs; whnf)) ?_
                    refine th_take (i := 19) (listed' := #[tt,tt,tt,tt,tt,tt,tt,tt,tt,tt,tt,tt,tt,tt,tt,tt,tt,tt,tt,tt]) rfl kqz kqz kqz rfl rfl (o_assign (by conv => lhs; whnf)) ?_; refine th_done kqz ?_; refine q_then_n ?_; refine sr ?_; refine tlm ?_; refine tlm ?_; refine tv (o_ixP (a := a) Tryz.underlying47 sz82 rfl rfl oqz (nn_rs sq4z (fun _ => by rw [xcl_len]; omega))) ?_; refine tv (o_faP (a := a) (m := 0) (o := 0) Tryz.underlying82 rfl rfl sz3 rfl (nn_rs sq4z (fun _ => by rw [xcl_len]; omega))) ?_; refine tv (o_ldP (a := a) (xs := xcl xs) p3 rfl sq4z (by rw [xcl_at0 oqz, hx1])) ?_; refine tlm ?_; refine tl_c rfl (o_call bd74 rfl (rRec_c (p := p) (xs := ((imgS s1).drop p).take n) (hr := rs_sl) (hm := hol) (hb := img_sub))) ?_; rintro _ _ ⟨a103, c103, rfl, hc103, rfl⟩; refine tla ?_; refine nq ?_; refine sr ?_
                    refine tlm ?_; refine tv (o_nilCheck rfl) ?_; refine tv (o_fieldAddr (o := 0) Tryz.underlying96 rfl rfl sz33 rfl) ?_; refine tv (o_load p33 rfl haqz rfl) ?_; refine tlm ?_; refine tlm ?_; refine tl_c rfl (o_call bd37 rfl (rStore_c (s := s1) (p := (q : Nat)) (xs := recS p (((imgS s1).drop p).take n)) (hm := hrl) (hb := hrb) (hroom := fun _ l hl => by have := hq5 l hl; omega))) ?_; rintro _ _ ⟨e110, s110, hs110, rfl, rfl⟩; refine tla ?_; refine nq ?_; refine tc_seq ?_; refine sr ?_; refine tlm ?_; refine tv (o_nei rfl rfl) ?_; refine nq ?_; refine tc_cond rfl (fun h => ?_) (fun h => ?_)
                    · have he0 : e110 ≠ 0 := by simpa using h
                      have hput : putF (at_ + 64) xs s = (e110, s110) := by rw [hq1, hdr]; exact putF_e hs110 he0
                      refine sr ?_; refine tlm ?_; refine tla ?_; refine nq ?_; refine tc_ret ?_; refine q_then_r (q_block_r (q_then_r (q_then_r (q_block_r (q_then_r ?_))))); exact ⟨.int .i64 (e110), C (RDev r s110), res1 rfl rfl, fun _ _ h => by rw [hC]; exact (Dr.sat (A' := R * RDev r s110) drqz) _ _ h, e110, s110, by unfold writeS; rw [if_neg (by rw [ho]; decide), if_neg (by rw [hv]; exact hv0), if_neg (by rw [hp1]; decide), hnd, if_neg hful, if_neg hx0, hput, if_pos he0], rfl, rfl⟩
                    · obtain rfl : e110 = 0 := by simpa using h
                      refine tc_skip ?_; refine q_then_n ?_; refine tc_reg ?_; refine tlm ?_; refine tlm ?_; refine tv (o_len Tryz.underlying22 rfl) ?_; refine tv adqz ?_; refine tl_env (d := 117) (v := .int .i64 ((q + (24 + up8 n) : Nat) : Int)) (by first | rfl | (show Value.int .i64 _ = _; congr 1; omega)) ?_; refine tla ?_; refine tl_nil ?_; refine q_block_n (q_then_n ?_); refine tc_reg ?_; refine tlm ?_; refine tv adqz ?_; refine tla ?_; refine nq ?_; exact ⟨_, by omega, j + 1, _, _, by omega, by rw [hq1, hdr]; exact putF_o hs110, by rw [sto_on hs110]; exact hq2, by have h9 := sto_len (q : Nat) (recS p (((imgS s1).drop p).take n)) s1; rw [hs110] at h9; exact h9.trans hq3, by omega, sto_room hs110 hw1 hrb (fun l hl => by have := hq5 l hl; rw [hrl]; omega), rfl, rfl, rfl, rfl, rfl, rfl, drqz⟩
                  · obtain rfl : j = i := by first | omega | (simp at h; omega)
                    have hput : putF (at_ + 64) xs s = (0, s1) := by rw [hq1, List.drop_eq_nil_of_le oqz]; rfl
                    refine tc_have (fun _ _ h => wfR_ct ctqz h) fun hw1 => ?_
                    have hr1 : Room 1 s1 := fun l hl => by have := hq5 l hl; omega
                    have hin1 : at_ + 64 + needN xs ≤ s1.ls.length * 64 := by omega
                    refine tc_exit ?_; refine q_then_e (q_then_e (q_block_x (q_then_n ?_))); refine sr ?_; refine tlm ?_; refine tlm ?_; refine tv (o_nilCheck rfl) ?_; refine tv (o_fieldAddr (o := 1) Tryz.underlying96 rfl rfl sz3 rfl) ?_; refine tv (o_load p3 rfl haqz rfl) ?_; refine tv adqz ?_; refine tl_env (d := 123) (v := .int .i64 ((at_ + 64 : Nat) : Int)) (by first | rfl | (show Value.int .i64 _ = _; congr 1; omega)) ?_; refine tlm ?_; refine tv (o_bS (l := [_, _]) (pv_cons (by conv => lhs; whnf) (pv_cons (by conv => lhs; whnf) pv_nil)) Tryz.underlying82 z82 (pl82 Tryz.underlying82) rfl) ?_; refine tl_c rfl (o_call bd75 rfl (rflush_c (s := s1) (p := at_ + 64) (m := needN xs))) ?_; rintro _ _ ⟨e126, s126, hs126, rfl, rfl⟩; refine tla ?_; refine nq ?_; refine tc_seq ?_; refine sr ?_; refine tlm ?_; refine tv (o_eqi rfl rfl) ?_; refine nq ?_
                    refine tc_cond rfl (fun h => ?_) (fun h => ?_)
                    · obtain rfl : e126 = 0 := by simpa using h
                      refine tc_reg ?_; refine tlm ?_; refine tv (o_nilCheck rfl) ?_; refine tv (o_fieldAddr (o := 0) Tryz.underlying96 rfl rfl sz33 rfl) ?_; refine tv (o_load p33 rfl haqz rfl) ?_; refine tl_c rfl (o_call bd41 rfl (rFence_c (s := s126))) ?_; rintro _ _ ⟨e133, s133, hs133, rfl, rfl⟩; refine tla ?_; refine nq ?_; refine tc_seq ?_; refine sr ?_; refine tlm ?_; refine tv (o_nei rfl rfl) ?_; refine nq ?_; refine tc_cond rfl (fun h => ?_) (fun h => ?_)
                      · have he1 : e133 ≠ 0 := by simpa using h
                        have hrg := range_o hq2 oqz hin1 hs126 hs133
                        refine sr ?_; refine tlm ?_; refine tla ?_; refine nq ?_; refine tc_ret ?_; refine q_then_r ?_; exact ⟨.int .i64 (e133), C (RDev r s133), res1 rfl rfl, fun _ _ h => by rw [hC]; exact (Dr.sat (A' := R * RDev r s133) drqz) _ _ h, e133, s133, by unfold writeS; rw [if_neg (by rw [ho]; decide), if_neg (by rw [hv]; exact hv0), if_neg (by rw [hp1]; decide), hnd, if_neg hful, if_neg hx0, hput, if_neg (by simp)]; simp only []; rw [hrg, if_pos he1], rfl, rfl⟩
                      · obtain rfl : e133 = 0 := by simpa using h
                        have hrg := range_o hq2 oqz hin1 hs126 hs133
                        have hr2 := rangeP_room hrg hw1 hr1
                        refine tc_skip ?_; refine q_then_n ?_; refine sr ?_; refine tlm ?_; refine tlm ?_; refine tv (o_len Tryz.underlying47 rfl) ?_; refine tl_env (d := 139) (v := .int .i64 ((xs.length : Nat) : Int)) (by rw [hm]; rfl) ?_; refine tl_c rfl (o_call bd76 rfl (rpub_c (s := s133) (n := xs.length))) ?_; rintro _ _ ⟨e140, s140, hs140, rfl, rfl⟩; refine tla ?_; refine nq ?_; refine tc_ret ?_; exact ⟨.int .i64 (e140), C (RDev r s140), res1 rfl rfl, fun _ _ h => by rw [hC]; exact (Dr.sat (A' := R * RDev r s140) drqz) _ _ h, e140, s140, by unfold writeS; rw [if_neg (by rw [ho]; decide), if_neg (by rw [hv]; exact hv0), if_neg (by rw [hp1]; decide), hnd, if_neg hful, if_neg hx0, hput, if_neg (by simp)]; simp only []; rw [hrg, if_neg (by simp)]; exact hs140, rfl, rfl⟩
                    · have he1 : e126 ≠ 0 := by simpa using h
                      have hrg := range_e hq2 oqz hin1 hs126 he1
                      refine tc_skip ?_; refine q_then_n ?_; refine tc_seq ?_; refine sr ?_; refine tlm ?_; refine tv (o_nei rfl rfl) ?_; refine nq ?_; refine tc_cond rfl (fun h => ?_) (fun h => ?_)
                      · try simp only [lv1, lv2, lv3, lv4, lv5, lv6, Bool.not_true, Bool.not_false] at h
                        refine sr ?_; refine tlm ?_; refine tla ?_; refine nq ?_; refine tc_ret ?_; refine q_then_r ?_; exact ⟨.int .i64 (e126), C (RDev r s126), res1 rfl rfl, fun _ _ h => by rw [hC]; exact (Dr.sat (A' := R * RDev r s126) drqz) _ _ h, e126, s126, by unfold writeS; rw [if_neg (by rw [ho]; decide), if_neg (by rw [hv]; exact hv0), if_neg (by rw [hp1]; decide), hnd, if_neg hful, if_neg hx0, hput, if_neg (by simp)]; simp only []; rw [hrg, if_pos he1], rfl, rfl⟩
                      · (exfalso; first | (revert h; simp; done) | (simp at h; done) | (revert h; simp; omega) | (simp at h; omega) | omega)
set_option maxRecDepth 20000 in
set_option maxHeartbeats 2000000 in
theorem rRollback_c {A R : SP} {C : SP → SP} {r : Nat} {s : DevS} (hc : Ct A (RDev r s) R C := by repeat (first | with_reducible exact ct_here | apply ct_left)) {bk at_ sz : Nat} (hl : Has R bk (cl (lcs11 r at_ sz) 96) := by (repeat (first | assumption | with_reducible exact has_here | with_reducible exact has_pt | apply has_left))) (hlw : LogW (s.ls.length * 64) at_ sz := by assumption) (hroom : Room (sz + 1) s := by assumption) :
    Fn Tryz.prog 36 #[.pointer (some ⟨bk, 0, none⟩)] (A) (fun r_ B => ∃ e k s2, rollS at_ sz s = ((k, e), s2) ∧ r_ = .tuple #[.int .i64 k, .int .i64 e] ∧ B = C (RDev r s2)) := by
  refine fn_enterW (args := [.pointer (some ⟨bk, 0, none⟩)]) Tryz.func36 rfl Tryz.ntmps36 (by simp) ?_; refine tc_have (fun _ _ h => wfR_ct hc h) fun hw => ?_
  have htop := hw.top
  have hpos := hw.pos
  obtain ⟨rfl, hC⟩ := hc
  have hAC : ∀ g w, sat g w (R * RDev r s) → sat g w (C (RDev r s)) := fun g w h => by rw [hC]; exact h
  have hlw9 := hlw
  obtain ⟨w1, w2, w3, w4, w5⟩ := hlw9
  obtain ⟨L, e0, hL⟩ : ∃ L e0, recordsS at_ sz s = (L, e0) := ⟨_, _, rfl⟩
  refine sr ?_; refine tla ?_; refine tla ?_; refine nq ?_; refine sr ?_; refine tlm ?_; refine tl_c rfl (o_call bd34 rfl (rRecords_w (s := s) (hX := hL))) ?_; rintro _ _ ⟨a9, c9, vs, rfl, hc9, hvs, rfl⟩; refine tl_have (fun _ _ h => parts_getD hvs h.left) fun hps => ?_; refine tlm ?_; refine tv (o_extract rfl rfl) ?_; refine tv (o_extract rfl rfl) ?_; refine tla ?_; refine tla ?_; refine nq ?_; refine tc_seq ?_; refine sr ?_; refine tlm ?_; refine tv (o_nei rfl rfl) ?_; refine tlm ?_; refine tl_bool (d := 14) rfl (fun h => ?_) (fun h => ?_)
  · have g14 : (e0 ≠ 0) := by first | exact of_decide_eq_true h | (have h2 := h; simp at h2; omega) | simpa using h
    refine tk ?_; refine tk ?_; refine tk ?_; refine tv (o_pick_t rfl (by conv => lhs; whnf)) ?_; refine nq ?_; refine tc_cond_t rfl ?_; refine sr ?_; refine tlm ?_; refine tla ?_; refine tla ?_; refine nq ?_; refine tc_ret ?_; refine q_then_r ?_; exact ⟨.tuple #[.int .i64 0, .int .i64 e0], C (RDev r s), res2 rfl rfl rfl, fun _ _ h => by rw [hC]; exact (Dr.sat (A' := R * RDev r s) drqz) _ _ h, e0, 0, s, roll_no hL (by first | exact hor | exact .inl (by assumption)), rfl, rfl⟩
  · have g14 : ¬ (e0 ≠ 0) := by first | exact of_decide_eq_false h | (have h2 := h; simp at h2; omega) | simpa using h
    refine tlm ?_; refine tv (o_len Tryz.underlying84 rfl) ?_; refine tv (o_eqi rfl rfl) ?_; refine tv (o_pick_f rfl (by conv => lhs; whnf)) ?_; refine nq ?_; refine tc_cond rfl (fun h => ?_) (fun h => ?_)
    · have hor : e0 ≠ 0 ∨ L = [] := by first | exact .inl (by assumption) | exact .inr (List.eq_nil_of_length_eq_zero (by first | (have := of_decide_eq_true h; omega) | (simp at h; omega)))
      refine sr ?_; refine tlm ?_; refine tla ?_; refine tla ?_; refine nq ?_; refine tc_ret ?_; refine q_then_r ?_; exact ⟨.tuple #[.int .i64 0, .int .i64 e0], C (RDev r s), res2 rfl rfl rfl, fun _ _ h => by rw [hC]; exact (Dr.sat (A' := R * RDev r s) drqz) _ _ h, e0, 0, s, roll_no hL (by first | exact hor | exact .inl (by assumption)), rfl, rfl⟩
    · obtain rfl : e0 = 0 := by omega
      have hne : L ≠ [] := fun e9 => by subst e9; first | exact of_decide_eq_false h rfl | (simp at h)
      refine tc_skip ?_; refine q_then_n ?_; refine tc_seq ?_; refine tc_seq ?_
      obtain ⟨hrk, hrs⟩ := records_ok hw hlw hL
      refine tc_reg ?_; refine tlm ?_; refine tv (o_len Tryz.underlying84 rfl) ?_; refine tv (by first | exact o_subI rfl rfl oqz | exact o_sub rfl rfl) ?_; refine tl_env (d := 22) (v := .int .i64 ((L.length : Int) - 1 - ((0 : Nat) : Int))) (by show Value.int .i64 _ = _; congr 1; omega) ?_; refine tla ?_; refine nq ?_; refine tc_block ?_; refine tc_loop (fun kk ρ BB => ∃ (i : Nat) (s1 : DevS), (i ≤ L.length) ∧ (backF (L.reverse.drop i) s1 = backF L.reverse s) ∧ (s1.ls.length = s.ls.length) ∧ (Room (sumL (L.reverse.drop i) + 1) s1) ∧ kk = L.length - i ∧ ρ 6 = .int .i64 ((L.length : Int) - 1 - (i : Int)) ∧ ρ 0 = .pointer (some ⟨bk, 0, none⟩) ∧ ρ 4 = .slice a9 L.length c9 ∧ Dr BB (R * RDev r s1 * Parts vs (L.map (·.2)) * Sl 2 (.slice a9 L.length c9) L.length (kcl L vs))) (m := L.length - (0)) ?_ ?_
      · exact ⟨0, s, by omega, rfl, rfl, fun l hl => by have := hroom l hl; rw [List.drop_zero, sumL_rev]; omega, rfl, rfl, rfl, rfl, drqz⟩
      · intro k ρ B hI
        obtain ⟨i, s1, hp0, hp1, hp2, hp3, hkk1, hE6, hE0, hE4, hBA⟩ := hI
        refine tc_pre hBA.sat ?_
        clear hBA
        refine tc_env (d := 6) hE6 ?_; refine tc_env (d := 0) hE0 ?_; refine tc_env (d := 4) hE4 ?_
        clear hE6 hE0 hE4
        refine tc_seq ?_; refine sr ?_; refine tlm ?_; refine tv (o_geq rfl rfl) ?_; refine nq ?_; refine tc_cond rfl (fun h => ?_) (fun h => ?_)
        · have hi : i < L.length := by simp at h; omega
          have hkk : (L.length - 1 - i) < L.length := by omega
          obtain ⟨xb, xc, hv27, hxc⟩ := hps _ hkk
          have hprs := parts_rsL hvs hkk hv27
          have hdr := rev_at hi
          obtain ⟨hmx, hxb⟩ := hrk _ (getD_mem hkk)
          obtain ⟨zp, zm, hz, y1, y2, y3, y4⟩ := may_nat hmx
          simp only [Prod.mk.injEq, Int.ofNat_inj] at hz
          obtain ⟨hz1, hz2⟩ := hz
          rw [hdr, sumL_cons] at hp3
          refine tc_have (fun _ _ h => wfR_ct ctqz h) fun hw1 => ?_
          have hkI : (L.length : Int) - 1 - (i : Int) = (((L.length - 1 - i) : Nat) : Int) := by omega
          refine tc_skip ?_; refine q_then_n ?_; refine tc_seq ?_; refine tc_block ?_; refine tc_seq ?_; refine tc_regh (S := R * Parts vs (L.map (·.2)) * Sl 2 (.slice a9 L.length c9) L.length (kcl L vs)) mo drqz ?_
          show TH _ _ _ _ _ 16 #[ff,ff,ff,ff,ff,ff,ff,ff,ff,ff,ff,ff,ff,ff,ff,ff] _ _
          refine th_take (i := 0) (listed' := #[tt,ff,ff,ff,ff,ff,ff,ff,ff,ff,ff,ff,ff,ff,ff,ff]) rfl kqz kqz kqz rfl rfl (o_move (by conv => lhs; whnf)) ?_; refine th_take (i := 1) (listed' := #[tt,tt,ff,ff,ff,ff,ff,ff,ff,ff,ff,ff,ff,ff,ff,ff]) rfl kqz kqz kqz rfl rfl (o_nilCheck rfl) ?_; refine th_take (i := 2) (listed' := #[tt,tt,tt,ff,ff,ff,ff,ff,ff,ff,ff,ff,ff,ff,ff,ff]) rfl kqz kqz kqz rfl rfl (o_fieldAddr (o := 0) Tryz.underlying96 rfl rfl sz33 rfl) ?_; refine th_take (i := 3) (listed' := #[tt,tt,tt,tt,ff,ff,ff,ff,ff,ff,ff,ff,ff,ff,ff,ff]) rfl kqz kqz kqz rfl rfl (o_load p33 rfl haqz rfl) ?_; refine th_take (i := 4) (listed' := #[tt,tt,tt,tt,tt,ff,ff,ff,ff,ff,ff,ff,ff,ff,ff,ff]) rfl kqz kqz kqz rfl rfl (o_move (by conv => lhs; whnf)) ?_; refine th_take (i := 5) (listed' := #[tt,tt,tt,tt,tt,tt,ff,ff,ff,ff,ff,ff,ff,ff,ff,ff]) rfl kqz kqz kqz rfl rfl (o_move (by conv => lhs; whnf)) ?_; refine th_env (d := 32) (v := .int .i64 (((L.length - 1 - i) : Nat) : Int)) (by show Value.int .i64 _ = _; rw [hkI]) ?_; refine th_take (i := 6) (listed' := #[tt,tt,tt,tt,tt,tt,tt,ff,ff,ff,ff,ff,ff,ff,ff,ff]) rfl kqz kqz kqz rfl rfl (o_ixP (a := a9) Tryz.underlying84 sz92 rfl rfl oqz (nn_rs (xs := kcl L vs) sq7z (fun _ => by rw [kcl_len hvs]; omega))) ?_
          refine th_take (i := 7) (listed' := #[tt,tt,tt,tt,tt,tt,tt,tt,ff,ff,ff,ff,ff,ff,ff,ff]) rfl kqz kqz kqz rfl rfl (o_faP (a := a9) (m := 0) (o := 0) Tryz.underlying92 rfl rfl sz3 rfl (nn_rs (xs := kcl L vs) sq7z (fun _ => by rw [kcl_len hvs]; omega))) ?_; refine th_take (i := 8) (listed' := #[tt,tt,tt,tt,tt,tt,tt,tt,tt,ff,ff,ff,ff,ff,ff,ff]) rfl kqz kqz kqz rfl rfl (o_ldP (a := a9) (xs := kcl L vs) p3 rfl sq7z (kcl_a0 hvs hkk)) ?_; refine th_take (i := 9) (listed' := #[tt,tt,tt,tt,tt,tt,tt,tt,tt,tt,ff,ff,ff,ff,ff,ff]) rfl kqz kqz kqz rfl rfl (o_move (by conv => lhs; whnf)) ?_; refine th_take (i := 10) (listed' := #[tt,tt,tt,tt,tt,tt,tt,tt,tt,tt,tt,ff,ff,ff,ff,ff]) rfl kqz kqz kqz rfl rfl (o_move (by conv => lhs; whnf)) ?_; refine th_env (d := 37) (v := .int .i64 (((L.length - 1 - i) : Nat) : Int)) (by show Value.int .i64 _ = _; rw [hkI]) ?_; refine th_take (i := 11) (listed' := #[tt,tt,tt,tt,tt,tt,tt,tt,tt,tt,tt,tt,ff,ff,ff,ff]) rfl kqz kqz kqz rfl rfl (o_ixP (a := a9) Tryz.underlying84 sz92 rfl rfl oqz (nn_rs (xs := kcl L vs) sq7z (fun _ => by rw [kcl_len hvs]; omega))) ?_
          refine th_take (i := 12) (listed' := #[tt,tt,tt,tt,tt,tt,tt,tt,tt,tt,tt,tt,tt,ff,ff,ff]) rfl kqz kqz kqz rfl rfl (o_faP (a := a9) (m := 0) (o := 1) Tryz.underlying92 rfl rfl sz22 rfl (nn_rs (xs := kcl L vs) sq7z (fun _ => by rw [kcl_len hvs]; omega))) ?_; refine th_take (i := 13) (listed' := #[tt,tt,tt,tt,tt,tt,tt,tt,tt,tt,tt,tt,tt,tt,ff,ff]) rfl kqz kqz kqz rfl rfl (o_ldP (a := a9) (xs := kcl L vs) p22 rfl sq7z (kcl_a1 hvs hkk)) ?_; refine th_env (d := 40) (v := .slice xb ((L.getD (L.length - 1 - i) (0, [])).2).length xc) (hv27) ?_; refine th_one (i := 14) kqz ?_; refine oh_c (i := 14) (listed' := #[tt,tt,tt,tt,tt,tt,tt,tt,tt,tt,tt,tt,tt,tt,tt,ff]) rfl rfl rfl (o_call bd37 rfl (rStore_c (s := s1) (p := ((((L.getD (L.length - 1 - i) (0, [])).1) : Nat) : Int)) (xs := ((L.getD (L.length - 1 - i) (0, [])).2)) (hr := by repeat (first | exact hprs _ | apply Rs.left)) (hmc := hxc) (hb := hxb) (hroom := fun _ l hl => by have := hp3 l hl; omega))) ?_; rintro _ _ ⟨e41, s41, hs41, rfl, rfl⟩; refine ⟨by repeat (first | with_reducible exact dr_refl | apply dr_keep | apply dr_drop), ?_⟩; refine th_take (i := 15) (listed' := #[tt,tt,tt,tt,tt,tt,tt,tt,tt,tt,tt,tt,tt,tt,tt,tt]) rfl kqz kqz kqz rfl rfl (o_assign (by conv => lhs; whnf)) ?_
          refine th_done kqz ?_; refine q_then_n ?_; refine tc_seq ?_; refine sr ?_; refine tlm ?_; refine tv (o_eqi rfl rfl) ?_; refine nq ?_; refine tc_cond rfl (fun h => ?_) (fun h => ?_)
          · obtain rfl : e41 = 0 := by simpa using h
            have hsl := sto_len ((((L.getD (L.length - 1 - i) (0, [])).1) : Nat) : Int) ((L.getD (L.length - 1 - i) (0, [])).2) s1
            rw [hs41] at hsl
            simp only at hsl
            refine tc_regh (S := R * Parts vs (L.map (·.2)) * Sl 2 (.slice a9 L.length c9) L.length (kcl L vs)) mo drqz ?_
            show TH _ _ _ _ _ 15 #[ff,ff,ff,ff,ff,ff,ff,ff,ff,ff,ff,ff,ff,ff,ff] _ _
            refine th_take (i := 0) (listed' := #[tt,ff,ff,ff,ff,ff,ff,ff,ff,ff,ff,ff,ff,ff,ff]) rfl kqz kqz kqz rfl rfl (o_move (by conv => lhs; whnf)) ?_; refine th_take (i := 1) (listed' := #[tt,tt,ff,ff,ff,ff,ff,ff,ff,ff,ff,ff,ff,ff,ff]) rfl kqz kqz kqz rfl rfl (o_move (by conv => lhs; whnf)) ?_; refine th_take (i := 2) (listed' := #[tt,tt,tt,ff,ff,ff,ff,ff,ff,ff,ff,ff,ff,ff,ff]) rfl kqz kqz kqz rfl rfl (o_move (by conv => lhs; whnf)) ?_; refine th_env (d := 46) (v := .int .i64 (((L.length - 1 - i) : Nat) : Int)) (by show Value.int .i64 _ = _; rw [hkI]) ?_; refine th_take (i := 3) (listed' := #[tt,tt,tt,tt,ff,ff,ff,ff,ff,ff,ff,ff,ff,ff,ff]) rfl kqz kqz kqz rfl rfl (o_ixP (a := a9) Tryz.underlying84 sz92 rfl rfl oqz (nn_rs (xs := kcl L vs) sq7z (fun _ => by rw [kcl_len hvs]; omega))) ?_; refine th_take (i := 4) (listed' := #[tt,tt,tt,tt,tt,ff,ff,ff,ff,ff,ff,ff,ff,ff,ff]) rfl kqz kqz kqz rfl rfl (o_faP (a := a9) (m := 0) (o := 0) Tryz.underlying92 rfl rfl sz3 rfl (nn_rs (xs := kcl L vs) sq7z (fun _ => by rw [kcl_len hvs]; omega))) ?_; refine th_take (i := 5) (listed' := #[tt,tt,tt,tt,tt,tt,ff,ff,ff,ff,ff,ff,ff,ff,ff]) rfl kqz kqz kqz rfl rfl (o_ldP (a := a9) (xs := kcl L vs) p3 rfl sq7z (kcl_a0 hvs hkk)) ?_
            refine th_take (i := 6) (listed' := #[tt,tt,tt,tt,tt,tt,tt,ff,ff,ff,ff,ff,ff,ff,ff]) rfl kqz kqz kqz rfl rfl (o_move (by conv => lhs; whnf)) ?_; refine th_take (i := 7) (listed' := #[tt,tt,tt,tt,tt,tt,tt,tt,ff,ff,ff,ff,ff,ff,ff]) rfl kqz kqz kqz rfl rfl (o_move (by conv => lhs; whnf)) ?_; refine th_env (d := 51) (v := .int .i64 (((L.length - 1 - i) : Nat) : Int)) (by show Value.int .i64 _ = _; rw [hkI]) ?_; refine th_take (i := 8) (listed' := #[tt,tt,tt,tt,tt,tt,tt,tt,tt,ff,ff,ff,ff,ff,ff]) rfl kqz kqz kqz rfl rfl (o_ixP (a := a9) Tryz.underlying84 sz92 rfl rfl oqz (nn_rs (xs := kcl L vs) sq7z (fun _ => by rw [kcl_len hvs]; omega))) ?_; refine th_take (i := 9) (listed' := #[tt,tt,tt,tt,tt,tt,tt,tt,tt,tt,ff,ff,ff,ff,ff]) rfl kqz kqz kqz rfl rfl (o_faP (a := a9) (m := 0) (o := 1) Tryz.underlying92 rfl rfl sz22 rfl (nn_rs (xs := kcl L vs) sq7z (fun _ => by rw [kcl_len hvs]; omega))) ?_; refine th_take (i := 10) (listed' := #[tt,tt,tt,tt,tt,tt,tt,tt,tt,tt,tt,ff,ff,ff,ff]) rfl kqz kqz kqz rfl rfl (o_ldP (a := a9) (xs := kcl L vs) p22 rfl sq7z (kcl_a1 hvs hkk)) ?_
            refine th_env (d := 54) (v := .slice xb ((L.getD (L.length - 1 - i) (0, [])).2).length xc) (hv27) ?_; refine th_take (i := 11) (listed' := #[tt,tt,tt,tt,tt,tt,tt,tt,tt,tt,tt,tt,ff,ff,ff]) rfl kqz kqz kqz rfl rfl (o_len Tryz.underlying22 rfl) ?_; refine th_take (i := 12) (listed' := #[tt,tt,tt,tt,tt,tt,tt,tt,tt,tt,tt,tt,tt,ff,ff]) rfl kqz kqz kqz rfl rfl (o_bS (l := [_, _]) (pv_cons (by conv => lhs; whnf) (pv_cons (by conv => lhs; whnf) pv_nil)) Tryz.underlying82 z82 (pl82 Tryz.underlying82) rfl) ?_; refine th_one (i := 13) kqz ?_; refine oh_c (i := 13) (listed' := #[tt,tt,tt,tt,tt,tt,tt,tt,tt,tt,tt,tt,tt,tt,ff]) rfl rfl rfl (o_call bd75 rfl (rflush_c (s := s41) (p := ((L.getD (L.length - 1 - i) (0, [])).1)) (m := ((L.getD (L.length - 1 - i) (0, [])).2).length))) ?_; rintro _ _ ⟨e57, s57, hs57, rfl, rfl⟩; refine ⟨by repeat (first | with_reducible exact dr_refl | apply dr_keep | apply dr_drop), ?_⟩
            have hbk := back_e2 (x := L.getD (L.length - 1 - i) (0, [])) hs41 hs57
            refine th_take (i := 14) (listed' := #[tt,tt,tt,tt,tt,tt,tt,tt,tt,tt,tt,tt,tt,tt,tt]) rfl kqz kqz kqz rfl rfl (o_assign (by conv => lhs; whnf)) ?_; refine th_done kqz ?_; refine q_then_n ?_; refine sr ?_; refine tlm ?_; refine tv (o_nei rfl rfl) ?_; refine nq ?_; refine tc_cond rfl (fun h => ?_) (fun h => ?_)
            · have he57 : e57 ≠ 0 := by simpa using h
              refine sr ?_; refine tlm ?_; refine tla ?_; refine tla ?_; refine nq ?_; refine tc_ret ?_; refine q_block_r (q_then_r (q_then_r (q_block_r (q_then_r ?_)))); exact ⟨.tuple #[.int .i64 0, .int .i64 e57], C (RDev r s57), res2 rfl rfl rfl, fun _ _ h => by rw [hC]; exact (Dr.sat (A' := R * RDev r s57) drqz) _ _ h, e57, 0, s57, roll_b hL hne (by rw [← hp1, hdr]; exact backF_e hbk he57) he57, rfl, rfl⟩
            · obtain rfl : e57 = 0 := by simpa using h
              refine tc_skip ?_; refine q_block_n (q_then_n ?_); refine tc_reg ?_; refine tlm ?_; refine tv (by first | exact o_subI rfl rfl oqz | exact o_sub rfl rfl) ?_; refine tla ?_; refine nq ?_; exact ⟨_, by omega, i + 1, _, by omega, by rw [← hp1, hdr]; exact (backF_o hbk).symm, by have := back_len (L.getD (L.length - 1 - i) (0, [])) s1; rw [hbk] at this; exact this.trans hp2, back_room (x := L.getD (L.length - 1 - i) (0, [])) hbk hw1 hxb (fun l hl => by have := hp3 l hl; omega), rfl, by show Value.int .i64 _ = _; congr 1; omega, rfl, rfl, drqz⟩
          · have he41 : e41 ≠ 0 := by simpa using h
            have hbk := back_e1 (x := L.getD (L.length - 1 - i) (0, [])) hs41 he41
            refine tc_skip ?_; refine q_then_n ?_; refine sr ?_; refine tlm ?_; refine tv (o_nei rfl rfl) ?_; refine nq ?_; refine tc_cond rfl (fun h => ?_) (fun h => ?_)
            · try simp only [lv1, lv2, lv3, lv4, lv5, lv6, Bool.not_true, Bool.not_false] at h
              refine sr ?_; refine tlm ?_; refine tla ?_; refine tla ?_; refine nq ?_; refine tc_ret ?_; refine q_block_r (q_then_r (q_then_r (q_block_r (q_then_r ?_)))); exact ⟨.tuple #[.int .i64 0, .int .i64 e41], C (RDev r s41), res2 rfl rfl rfl, fun _ _ h => by rw [hC]; exact (Dr.sat (A' := R * RDev r s41) drqz) _ _ h, e41, 0, s41, roll_b hL hne (by rw [← hp1, hdr]; exact backF_e hbk he41) he41, rfl, rfl⟩
            · (exfalso; first | (revert h; simp; done) | (simp at h; done) | (revert h; simp; omega) | (simp at h; omega) | omega)
        · obtain rfl : i = L.length := by simp at h; omega
          have hbk : backF L.reverse s = (0, s1) := by rw [← hp1, List.drop_eq_nil_of_le (by rw [List.length_reverse]; exact Nat.le_refl _)]; rfl
          refine tc_have (fun _ _ h => wfR_ct ctqz h) fun hw1 => ?_
          have hr1 : Room 1 s1 := fun l hl => by have := hp3 l hl; omega
          refine tc_exit ?_; refine q_then_e (q_then_e (q_block_x (q_then_n ?_))); refine sr ?_; refine tlm ?_; refine tv (o_nilCheck rfl) ?_; refine tv (o_fieldAddr (o := 0) Tryz.underlying96 rfl rfl sz33 rfl) ?_; refine tv (o_load p33 rfl haqz rfl) ?_; refine tl_c rfl (o_call bd41 rfl (rFence_c (s := s1))) ?_; rintro _ _ ⟨e65, s65, hs65, rfl, rfl⟩; refine tla ?_; refine nq ?_; refine tc_seq ?_; refine sr ?_; refine tlm ?_; refine tv (o_eqi rfl rfl) ?_; refine nq ?_; refine tc_cond rfl (fun h => ?_) (fun h => ?_)
          · obtain rfl : e65 = 0 := by simpa using h
            have hr2 := fe_room hs65 hw1 hr1
            refine tc_reg ?_; refine tlm ?_; refine tl_c rfl (o_call bd76 rfl (rpub_c (s := s65) (n := 0))) ?_; rintro _ _ ⟨e69, s69, hs69, rfl, rfl⟩; refine tla ?_; refine nq ?_; refine tc_seq ?_; refine sr ?_; refine tlm ?_; refine tv (o_nei rfl rfl) ?_; refine nq ?_; refine tc_cond rfl (fun h => ?_) (fun h => ?_)
            · have he69 : e69 ≠ 0 := by simpa using h
              refine sr ?_; refine tlm ?_; refine tla ?_; refine tla ?_; refine nq ?_; refine tc_ret ?_; refine q_then_r ?_; exact ⟨.tuple #[.int .i64 0, .int .i64 e69], C (RDev r s69), res2 rfl rfl rfl, fun _ _ h => by rw [hC]; exact (Dr.sat (A' := R * RDev r s69) drqz) _ _ h, e69, 0, s69, roll_p hL hne hbk hs65 hs69 he69, rfl, rfl⟩
            · obtain rfl : e69 = 0 := by simpa using h
              refine tc_skip ?_; refine q_then_n ?_; refine sr ?_; refine tlm ?_; refine tv (o_len Tryz.underlying84 rfl) ?_; refine tla ?_; refine tla ?_; refine nq ?_; refine tc_ret ?_; exact ⟨.tuple #[.int .i64 ((L.length : Nat) : Int), .int .i64 0], C (RDev r s69), res2 rfl rfl rfl, fun _ _ h => by rw [hC]; exact (Dr.sat (A' := R * RDev r s69) drqz) _ _ h, 0, ((L.length : Nat) : Int), s69, roll_o hL hne hbk hs65 hs69, rfl, rfl⟩
          · have he65 : e65 ≠ 0 := by simpa using h
            refine tc_skip ?_; refine q_then_n ?_; refine tc_seq ?_; refine sr ?_; refine tlm ?_; refine tv (o_nei rfl rfl) ?_; refine nq ?_; refine tc_cond rfl (fun h => ?_) (fun h => ?_)
            · try simp only [lv1, lv2, lv3, lv4, lv5, lv6, Bool.not_true, Bool.not_false] at h
              refine sr ?_; refine tlm ?_; refine tla ?_; refine tla ?_; refine nq ?_; refine tc_ret ?_; refine q_then_r ?_; exact ⟨.tuple #[.int .i64 0, .int .i64 e65], C (RDev r s65), res2 rfl rfl rfl, fun _ _ h => by rw [hC]; exact (Dr.sat (A' := R * RDev r s65) drqz) _ _ h, e65, 0, s65, roll_f hL hne hbk hs65 he65, rfl, rfl⟩
            · (exfalso; first | (revert h; simp; done) | (simp at h; done) | (revert h; simp; omega) | (simp at h; omega) | omega)
end Go.Vl

namespace Go.Vl
open Go Go.Proofs
def sizedL (n : Nat) (xs : List Nat) : List Nat := xs.take n ++ List.replicate (n - xs.length) 0
theorem sizedL_len (n : Nat) (xs : List Nat) : (sizedL n xs).length = n := by unfold sizedL; rw [List.length_append, List.length_take, List.length_replicate]; omega
theorem sizedL_lt {n : Nat} {xs : List Nat} (h : ∀ x ∈ xs, x < 256) : ∀ x ∈ sizedL n xs, x < 256 := fun x hx => by
  unfold sizedL at hx
  rcases List.mem_append.1 hx with h1 | h1
  · exact h x (List.mem_of_mem_take h1)
  · have := List.eq_of_mem_replicate h1; omega
theorem fil_set' {L : List Nat} {n i : Nat} (h : i < L.length) (hn : i < n) : (L.take i ++ List.replicate (n - i) 0).set i L[i] = L.take (i + 1) ++ List.replicate (n - (i + 1)) 0 := by
  have e : n - i = (n - (i + 1)) + 1 := by omega
  have hl : (L.take i).length = i := by rw [List.length_take]; omega
  rw [List.set_append_right _ _ oqz, hl, Nat.sub_self, e, List.replicate_succ, List.set_cons_zero, List.take_succ_eq_append_getElem h, List.append_assoc]; rfl
attribute [local irreducible] Sl pt ro Dev imgS fromS
theorem Sized_c {A : SP} {a : Option Addr} {c m n : Nat} {xs : List Nat} (hr : Rs A a (bys xs) := by repeat (first | assumption | with_reducible exact rs_sl | with_reducible exact rs_pt0 | exact rs_none | apply Rs.left)) (hm : xs.length = m := by first | assumption | rfl) (hb : ∀ x ∈ xs, x < 256 := by assumption) (hn : n ≤ 17592186044416 := by omega) (hl : m ≤ 140737488351232 := by omega) :
    Fn Tryz.prog 18 #[.slice a m c, .int .i64 (n : Nat)] (A) (fun r B => ∃ a c, r = .slice a n c ∧ n ≤ c ∧ B = A * Sl 1 (.slice a n c) n (bys (sizedL n xs))) := by
  refine fn_enterW (args := [.slice a m c, .int .i64 (n : Nat)]) Tryz.func18 rfl Tryz.ntmps18 (by simp) ?_; refine sr ?_; refine tla ?_; refine nq ?_; refine sr ?_; refine tlm ?_; refine tl_x rfl (o_makeSlice (len := n) (cap := n) Tryz.underlying22 sz5 by5 z5 rfl rfl rfl oqz oqz oqz) ?_; rintro _ _ ⟨b8, rfl, rfl⟩; refine tl_pre (fun _ _ h => sl_new (k := 1) (n := n) (cap := n) (xs := bys (List.replicate n 0)) h oqz (by simp) (by rw [Nat.mul_one, List.take_of_length_le (by simp)]; unfold bys; rw [List.map_replicate]; rfl)) ?_; refine tla ?_; refine nq ?_; refine tc_seq ?_; refine sr ?_; refine tla ?_; refine nq ?_; refine tc_block ?_; refine tc_loop (fun kk ρ BB => ∃ (i : Nat), (i ≤ n) ∧ (i ≤ m) ∧ kk = n - i ∧ ρ 6 = .int .i64 (i : Nat) ∧ ρ 0 = .slice a m c ∧ ρ 1 = .int .i64 (n : Nat) ∧ ρ 5 = .slice (some ⟨b8, 0, none⟩) n n ∧ BB = A * Sl 1 (.slice (some ⟨b8, 0, none⟩) n n) n (bys (xs.take i ++ List.replicate (n - i) 0))) (m := n - (0)) ?_ ?_
  · exact ⟨0, by omega, by omega, rfl, rfl, rfl, rfl, rfl, rfl⟩
  · intro k ρ B hI
    obtain ⟨i, hp0, hp1, hkk1, hE6, hE0, hE1, hE5, rfl⟩ := hI
    refine tc_env (d := 6) hE6 ?_; refine tc_env (d := 0) hE0 ?_; refine tc_env (d := 1) hE1 ?_; refine tc_env (d := 5) hE5 ?_
    clear hE6 hE0 hE1 hE5
    refine tc_seq ?_; refine sr ?_; refine tlm ?_; refine tlm ?_; refine tv (o_lss rfl rfl) ?_; refine tlm ?_; refine tl_bool (d := 12) rfl (fun h => ?_) (fun h => ?_)
    · have hin : i < n := by simpa using h
      refine tlm ?_; refine tlm ?_; refine tv (o_len Tryz.underlying22 rfl) ?_; refine tv (o_lss rfl rfl) ?_; refine tv (o_pick_t rfl (by conv => lhs; whnf)) ?_; refine nq ?_; refine tc_cond rfl (fun h => ?_) (fun h => ?_)
      · have hi : i < xs.length := by simp at h; omega
        have hx8 := hb _ (List.getElem_mem hi)
        refine tc_skip ?_; refine q_then_n ?_; refine tc_seq ?_; refine tc_block ?_; refine tc_reg ?_; refine tlm ?_; refine tlm ?_; refine tlm ?_; refine tlm ?_; refine tv (o_ixP1 Tryz.underlying22 sz5 rfl rfl sq1z sq0z) ?_; refine tv (o_ldP p5 rfl sq2z (by first | assumption | exact bys_at oqz | exact ints_at oqz | exact wds_at oqz | exact bos_at oqz | rfl)) ?_; refine tv (o_ixP1 Tryz.underlying22 sz5 rfl rfl sq1z sq0z) ?_
        refine tl_u rfl (o_stP sz5 rfl rfl rfl ctqz oqz (by first | exact bys_set _ _ _ | exact ints_set _ _ _ | exact wds_set' _ _ _ | exact bos_set _ _ _ | rfl)) ?_; refine tl_nil ?_; refine q_block_n (q_then_n ?_); refine tc_reg ?_; refine tlm ?_; refine tv adqz ?_; refine tla ?_; refine nq ?_; exact ⟨_, by omega, i + 1, by omega, by omega, rfl, rfl, rfl, rfl, rfl, (by rw [← fil_set' hi oqz])⟩
      · try simp only [lv1, lv2, lv3, lv4, lv5, lv6, Bool.not_true, Bool.not_false] at h
        refine tc_exit ?_; refine q_then_e (q_then_e (q_block_x (q_then_n ?_))); refine tc_seq ?_
        have hfin : xs.take i ++ List.replicate (n - i) 0 = sizedL n xs := by
          unfold sizedL
          have hc : i = n ∨ i = xs.length := by
            try simp only [Bool.false_eq_true, decide_eq_false_iff_not, decide_eq_true_eq] at *
            omega
          rcases hc with hc | hc
          · rw [hc, show n - xs.length = 0 by omega, Nat.sub_self]
          · rw [hc, List.take_length, List.take_of_length_le oqz]
        rw [hfin]
        refine tc_reg ?_; refine tlm ?_; refine tla ?_; refine nq ?_; refine tc_ret ?_; exact ⟨_, _, res1 rfl rfl, fun _ _ h => h, some ⟨b8, 0, none⟩, n, rfl, Nat.le_refl _, rfl⟩
    · try simp only [lv1, lv2, lv3, lv4, lv5, lv6, Bool.not_true, Bool.not_false] at h
      refine tk ?_; refine tk ?_; refine tk ?_; refine tk ?_; refine tv (o_pick_f rfl (by conv => lhs; whnf)) ?_; refine nq ?_; refine tc_cond_f rfl ?_; refine tc_exit ?_; refine q_then_e (q_then_e (q_block_x (q_then_n ?_))); refine tc_seq ?_
      have hfin : xs.take i ++ List.replicate (n - i) 0 = sizedL n xs := by
        unfold sizedL
        have hc : i = n ∨ i = xs.length := by
          try simp only [Bool.false_eq_true, decide_eq_false_iff_not, decide_eq_true_eq] at *
          omega
        rcases hc with hc | hc
        · rw [hc, show n - xs.length = 0 by omega, Nat.sub_self]
        · rw [hc, List.take_length, List.take_of_length_le oqz]
      rw [hfin]
      refine tc_reg ?_; refine tlm ?_; refine tla ?_; refine nq ?_; refine tc_ret ?_; exact ⟨_, _, res1 rfl rfl, fun _ _ h => h, some ⟨b8, 0, none⟩, n, rfl, Nat.le_refl _, rfl⟩
structure WdC where
  a : Option Addr
  c : Nat
  b : List Nat
  q : Int
  v : Int
  af : Int
  kq : Int
def WdC.cells (t : WdC) : List Value := [.slice t.a t.b.length t.c, .int .i64 t.q, .int .u64 t.v, .int .i64 t.af, .int .i64 t.kq]
def PWord (A : SP) (cs : List Value) (t : WdC) : Prop := cs = t.cells ∧ Rs A t.a (bys t.b) ∧ (∀ x ∈ t.b, x < 256) ∧ t.b.length ≤ t.c ∧ t.b.length ≤ 140737488351232 ∧ 0 ≤ t.v ∧ t.v < 18446744073709551616
end Go.Vl

namespace Go.Vl
open Go Go.Proofs
/-- A device of n lines with room for k more contents of each. -/
structure Gd (n k : Nat) (s : DevS) : Prop where
  len : s.ls.length = n
  room : Room k s
  wf : WfD s
theorem Gd.le {n a b : Nat} {s : DevS} (h : Gd n a s) (hab : b ≤ a) : Gd n b s := ⟨h.len, room_le h.room hab, h.wf⟩
theorem fe_len (s : DevS) : (fe s).2.ls.length = s.ls.length := by
  unfold fe
  split
  · rfl
  · rw [doneS_len]; simp [fenceS]
theorem flF_len : ∀ (k q : Nat) (s : DevS), (flF k q s).2.ls.length = s.ls.length
  | 0, q, s => by rw [flF_zero]; exact fe_len s
  | k + 1, q, s => by
    show (if (fl1 ((q * 64 : Nat) : Int) s).1 ≠ 0 then fl1 ((q * 64 : Nat) : Int) s else flF k (q + 1) (fl1 ((q * 64 : Nat) : Int) s).2).2.ls.length = _
    split
    · exact fl1_len _ _
    · rw [flF_len k]; exact fl1_len _ _
theorem gd_flF {n k : Nat} (j q : Nat) {s : DevS} (h : Gd n k s) : Gd n k (flF j q s).2 := ⟨(flF_len _ _ _).trans h.len, (flF_room _ _ _ h.wf h.room).1, (flF_room _ _ _ h.wf h.room).2⟩
theorem gd_fe {n k : Nat} {s : DevS} (h : Gd n k s) : Gd n k (fe s).2 := by rw [← flF_zero 0]; exact gd_flF 0 0 h
theorem gd_range {n k : Nat} {p m : Int} {s : DevS} (h : Gd n k s) : Gd n k (rangeP p m s).2 := by
  unfold rangeP
  split
  · exact h
  · split
    · exact h
    · split
      · exact h
      · exact gd_flF _ _ h
theorem gd_pub {n k v : Nat} {p : Int} {s : DevS} (h : Gd n (k + 1) s) (hv : v < 18446744073709551616) : Gd n k (pubP p v s).2 := by
  have h1 : Gd n k (st8 p v s).2 := ⟨(st8_len _ _ _).trans h.len, st8_room (e := (st8 p v s).1) rfl h.wf hv h.room, st8_wf (e := (st8 p v s).1) rfl h.wf hv (room_le h.room oqz)⟩
  unfold pubP
  split
  · exact h1
  · exact gd_flF _ _ h1
theorem gd_sto {n k : Nat} {p : Int} {b : List Nat} {s : DevS} (h : Gd n (k + b.length) s) (hb : ∀ x ∈ b, x < 256) : Gd n k (sto p b s).2 :=
  ⟨(sto_len _ _ _).trans h.len, sto_room (e := (sto p b s).1) rfl h.wf hb h.room, sto_wf h.wf hb (room_le h.room oqz)⟩
theorem gd_putF {n k at_ sz : Nat} : ∀ {l : List (Int × Int)} {p : Nat} {s : DevS}, l.all (mayX (n * 64) at_ sz) = true → Gd n (k + needN l) s → Gd n k (putF p l s).2
  | [], p, s, _, h => h.le oqz
  | x :: l, p, s, ha, h => by
    rw [List.all_cons, Bool.and_eq_true] at ha
    obtain ⟨q, m, rfl, y1, y2, y3, y4⟩ := may_nat ha.1
    rw [needN_cons] at h
    simp only [Int.toNat_natCast] at h
    have hil := imgS_len h.wf
    have hln := h.len
    have hol : (((imgS s).drop q).take m).length = m := by rw [List.length_take, List.length_drop]; omega
    have hrl : (recS q (((imgS s).drop q).take m)).length = 24 + up8 m := by rw [recS_len, hol]
    have h1 : Gd n (k + needN l) (sto (p : Nat) (recS q (((imgS s).drop q).take m)) s).2 := gd_sto (h.le (by rw [hrl]; omega)) (recS_b img_sub)
    show Gd n k (if (sto (p : Nat) (recS q (((imgS s).drop q).take m)) s).1 ≠ 0 then sto (p : Nat) (recS q (((imgS s).drop q).take m)) s else putF (p + (24 + up8 m)) l (sto (p : Nat) (recS q (((imgS s).drop q).take m)) s).2).2
    split
    · exact h1.le oqz
    · exact gd_putF ha.2 h1
theorem gd_write {n k at_ sz : Nat} {l : List (Int × Int)} {s : DevS} (h : Gd n (sz + 1 + k) s) (hl : l.length < 18446744073709551616) : Gd n k (writeS at_ sz l s).2 := by
  unfold writeS
  split
  · exact h.le oqz
  split
  · exact h.le oqz
  split
  · exact h.le oqz
  rename_i hall
  split
  · exact h.le oqz
  rename_i hful
  split
  · exact h.le oqz
  have ha : l.all (mayX (s.ls.length * 64) at_ sz) = true := by simpa using hall
  have hx1 : ∀ x ∈ l, 1 ≤ x.2 := fun x hx => by
    obtain ⟨p, m, rfl, _, hn, _⟩ := may_nat (List.all_eq_true.1 ha x hx); show (1 : Int) ≤ (m : Int); omega
  obtain ⟨nd, en, hnd⟩ : ∃ nd en, needS (lensX l) = (nd, en) := ⟨_, _, rfl⟩
  rw [hnd] at hful
  simp only [] at hful
  have hN := needF_ok hx1 hnd oqz
  have h1 : Gd n (k + 1) (putF (at_ + 64) l s).2 := gd_putF (by rw [← h.len]; exact ha) (h.le oqz)
  split
  · exact h1.le oqz
  have h2 := gd_range (p := ((at_ + 64 : Nat) : Int)) (m := (needS (lensX l)).1) h1
  split
  · exact h2.le oqz
  · exact gd_pub h2 hl
theorem gd_clear {n k at_ : Nat} {s : DevS} (h : Gd n (k + 1) s) : Gd n k (clearS at_ s).2 := by
  unfold clearS
  split
  · exact h.le oqz
  · exact gd_pub h (by decide)
theorem back_wf {x : Nat × List Nat} {s : DevS} (hw : WfD s) (hb : ∀ b ∈ x.2, b < 256) (hr : Room x.2.length s) : WfD (backS x s).2 := by
  have h1 := sto_wf (p := (x.1 : Nat)) hw hb hr
  unfold backS
  split
  · exact h1
  · unfold flushX; exact flL_wf _ h1
theorem gd_backF {n k : Nat} : ∀ {L : List (Nat × List Nat)} {s : DevS}, (∀ x ∈ L, ∀ b ∈ x.2, b < 256) → Gd n (k + sumL L) s → Gd n k (backF L s).2
  | [], s, _, h => h.le oqz
  | x :: l, s, hb, h => by
    rw [sumL_cons] at h
    have hbx := hb x (by simp)
    have h1 : Gd n (k + sumL l) (backS x s).2 := ⟨(back_len _ _).trans h.len, back_room (e := (backS x s).1) rfl h.wf hbx (room_le h.room oqz), back_wf h.wf hbx (room_le h.room oqz)⟩
    show Gd n k (if (backS x s).1 ≠ 0 then backS x s else backF l (backS x s).2).2
    split
    · exact h1.le oqz
    · exact gd_backF (fun y hy => hb y (List.mem_cons_of_mem _ hy)) h1
theorem gd_roll {n k at_ sz : Nat} {s : DevS} (h : Gd n (sz + 1 + k) s) (hlw : LogW (s.ls.length * 64) at_ sz) : Gd n k (rollS at_ sz s).2 := by
  obtain ⟨L, e, hL⟩ : ∃ L e, recordsS at_ sz s = (L, e) := ⟨_, _, rfl⟩
  by_cases h0 : e ≠ 0 ∨ L = []
  · rw [roll_no hL h0]; exact h.le oqz
  obtain rfl : e = 0 := by omega
  have hne : L ≠ [] := fun e9 => h0 (.inr e9)
  obtain ⟨hrk, hrs⟩ := records_ok h.wf hlw hL
  have h1 : Gd n (k + 1) (backF L.reverse s).2 := gd_backF (fun x hx => (hrk x (List.mem_reverse.1 hx)).2) (h.le (by rw [sumL_rev]; omega))
  by_cases c1 : (backF L.reverse s).1 = 0
  · by_cases c2 : (fe (backF L.reverse s).2).1 = 0
    · have h2 := gd_fe h1
      have h3 : Gd n k (pubP (at_ : Nat) 0 (fe (backF L.reverse s).2).2).2 := gd_pub h2 (by decide)
      by_cases c3 : (pubP (at_ : Nat) 0 (fe (backF L.reverse s).2).2).1 = 0
      · rw [roll_o hL hne (Prod.ext c1 rfl) (Prod.ext c2 rfl) (Prod.ext c3 rfl)]; exact h3
      · rw [roll_p hL hne (Prod.ext c1 rfl) (Prod.ext c2 rfl) (e := (pubP (at_ : Nat) 0 (fe (backF L.reverse s).2).2).1) rfl c3]; exact h3
    · rw [roll_f hL hne (Prod.ext c1 rfl) (e := (fe (backF L.reverse s).2).1) rfl c2]; exact (gd_fe h1).le oqz
  · rw [roll_b hL hne (e := (backF L.reverse s).1) rfl c1]; exact h1.le oqz
theorem spl_zero {l : List Nat} {p k : Nat} (h : p + k < l.length) : (spl l p (List.replicate k 0)).set (p + k) 0 = spl l p (List.replicate (k + 1) 0) := by
  apply List.ext_getElem?
  intro j
  have h1 : (spl l p (List.replicate k 0)).length = l.length := spl_length (by rw [List.length_replicate]; omega)
  rw [List.getElem?_set, h1, spl_at (by rw [List.length_replicate]; omega), spl_at (by rw [List.length_replicate]; omega)]
  simp only [List.length_replicate, List.getElem?_replicate]
  by_cases hj : p + k = j
  · subst hj
    rw [if_pos rfl, if_pos oqz, if_pos oqz, if_pos oqz]
  · rw [if_neg hj]
    by_cases h2 : p ≤ j ∧ j < p + k
    · rw [if_pos h2, if_pos oqz, if_pos oqz, if_pos oqz]
    · rw [if_neg h2, if_neg oqz]
theorem five_len (k : Nat) : (fiveX k).length = k := by unfold fiveX; simp
theorem five_at {l : List (Int × Int)} {n i : Nat} (hm : l.length = n) (h : n ≤ i) (hi : i < (l ++ fiveX 5).length) : (l ++ fiveX 5)[i] = ((64 : Int), 1 + ((i - n : Nat) : Int)) := by
  rw [List.getElem_append_right oqz]
  simp only [fiveX, List.getElem_map, List.getElem_range]; subst hm; rfl
theorem rs_five {A : SP} {a : Option Addr} {n : Nat} {l : List (Int × Int)} (h : Rs A a (xcl (l ++ fiveX 5))) (hm : l.length = n) : Rs A a (xcl l) := by
  have h2 := h.sub (n * 2)
  have e : (xcl (l ++ fiveX 5)).take (n * 2) = xcl l := by
    unfold xcl; rw [fm_take (f := xcs) (k := 2) (fun _ _ => rfl), List.take_left' hm]
  rwa [e] at h2
attribute [local irreducible] crk crL crc Sl pt ro Dev RDev imgS recS readS recsF rdW rdO rkT Parts rvl recordsS mdI mdK rise mds writeS rollS clearS oldsL kcl xcl lensX lst brL brX fiveX
set_option maxRecDepth 20000 in
set_option maxHeartbeats 2000000 in
theorem kept11_c {A R : SP} {C : SP → SP} {a b : Option Addr} {c d n : Nat} {l : List (Int × Int)} (hc : Ct A (Sl 2 (.slice a (n + 5) c) (n + 5) (xcl (l ++ fiveX 5))) R C := by repeat (first | with_reducible exact ct_here | apply ct_left)) (hr2 : Rs A b (xcl l) := by repeat (first | assumption | with_reducible exact rs_sl | with_reducible exact rs_pt0 | exact rs_none | apply Rs.left)) (hm : l.length = n := by first | assumption | rfl) (hcc : n + 5 ≤ c := by omega) (hs : n ≤ 1099511627776 := by omega) :
    Fn Tryz.prog 31 #[.slice a n c, .slice b n d] (A) (fun v B => v = .bool true ∧ B = R) := by
  refine fn_enterW (args := [.slice a n c, .slice b n d]) Tryz.func31 rfl Tryz.ntmps31 (by simp) ?_
  obtain ⟨rfl, hC⟩ := hc
  have hfl : (l ++ fiveX 5).length = n + 5 := by rw [List.length_append, five_len, hm]
  have hr : Rs (R * Sl 2 (.slice a (n + 5) c) (n + 5) (xcl (l ++ fiveX 5))) a (xcl (l ++ fiveX 5)) := rs_sl
  have hr3 := hr2
  refine sr ?_; refine tla ?_; refine nq ?_; refine sr ?_; refine tlm ?_; refine tlm ?_; refine tv (o_len Tryz.underlying47 rfl) ?_; refine tv adqz ?_; refine tl_env (d := 11) (v := .int .i64 ((n + 5 : Nat) : Int)) (rfl) ?_; refine tv (o_slice (l := 0) (h := n + 5) Tryz.underlying47 sz82 rfl bnd_none (bnd_nat rfl) oqz oqz) ?_; refine tl_env (d := 12) (v := .slice a (n + 5) c) (by show Value.slice (cutAddr _ _ 0 2) (n + 5 - 0) (c - 0) = _; rw [show cutAddr a c 0 2 = a by unfold cutAddr; cases a <;> simp [Addr.add]]; rfl) ?_; refine tla ?_; refine nq ?_; refine tc_seq ?_; refine sr ?_; refine tla ?_; refine nq ?_; refine tc_block ?_; refine tc_loop (fun kk ρ BB => ∃ (i : Nat), (i ≤ n + 5) ∧ kk = n + 5 - i ∧ ρ 6 = .int .i64 (i : Nat) ∧ ρ 0 = .slice a n c ∧ ρ 1 = .slice b n d ∧ ρ 5 = .slice a (n + 5) c ∧ BB = R * Sl 2 (.slice a (n + 5) c) (n + 5) (xcl (l ++ fiveX 5))) (m := n + 5 - (0)) ?_ ?_
  · exact ⟨0, by omega, rfl, rfl, rfl, rfl, rfl, rfl⟩
  · intro k ρ B hI
    obtain ⟨i, hp0, hkk1, hE6, hE0, hE1, hE5, rfl⟩ := hI
    refine tc_env (d := 6) hE6 ?_; refine tc_env (d := 0) hE0 ?_; refine tc_env (d := 1) hE1 ?_; refine tc_env (d := 5) hE5 ?_
    clear hE6 hE0 hE1 hE5
    refine tc_seq ?_; refine sr ?_; refine tlm ?_; refine tlm ?_; refine tv (o_len Tryz.underlying47 rfl) ?_; refine tv (o_lss rfl rfl) ?_; refine nq ?_; refine tc_cond rfl (fun h => ?_) (fun h => ?_)
    · have hi : i < (l ++ fiveX 5).length := by simp at h; omega
      refine tc_skip ?_; refine q_then_n ?_; refine tc_seq ?_; refine tc_block ?_; refine tc_seq ?_; refine tc_regq mo kqz ?_; refine ql_v rfl (o_move (by conv => lhs; whnf)) ?_; refine ql_v rfl (o_move (by conv => lhs; whnf)) ?_; refine ql_v rfl (o_len Tryz.underlying47 rfl) ?_; refine ql_v rfl (o_lss rfl rfl) ?_; refine ql_v rfl (o_move (by conv => lhs; whnf)) ?_; refine ql_bool (d := 23) rfl (fun h => ?_) (fun h => ?_)
      · have hi2 : i < l.length := by simp at h; omega
        have hx : (l ++ fiveX 5)[i] = l[i] := List.getElem_append_left hi2
        refine ql_v rfl (o_move (by conv => lhs; whnf)) ?_; refine ql_v rfl (o_move (by conv => lhs; whnf)) ?_; refine ql_v rfl (o_ixP (a := a) Tryz.underlying47 sz82 rfl rfl oqz (nn_rs hr (fun _ => by rw [xcl_len]; omega))) ?_; refine ql_v rfl (o_ldPN (a := a) (xs := xcl (l ++ fiveX 5)) (vs := xcs l[i]) a82 sz82 rfl hr (by rw [xcl_at hi, hx]) rfl (by decide)) ?_; refine ql_v rfl (o_move (by conv => lhs; whnf)) ?_; refine ql_v rfl (o_move (by conv => lhs; whnf)) ?_; refine ql_v rfl (o_ixP (a := b) Tryz.underlying47 sz82 rfl rfl oqz (nn_rs hr3 (fun _ => by rw [xcl_len]; omega))) ?_; refine ql_v rfl (o_ldPN (a := b) (xs := xcl l) (vs := xcs l[i]) a82 sz82 rfl hr3 (xcl_at hi2) rfl (by decide)) ?_; refine ql_v rfl (o_nest (k := 2) (l := [l[i].1, l[i].2]) (m := [l[i].1, l[i].2]) Tryz.underlying82 kqz kqz kqz rfl rfl rfl rfl) ?_; refine ql_env (d := 32) (v := .bool false) (by show Value.bool (!decide _) = _; simp) ?_; refine ql_v rfl (o_pick_t rfl (by conv => lhs; whnf)) ?_; refine ql_v rfl (o_move (by conv => lhs; whnf)) ?_; refine ql_bool (d := 34) rfl (fun h => ?_) (fun h => ?_)
        · exfalso; simp at h
        · try simp only [lv1, lv2, lv3, lv4, lv5, lv6, Bool.not_true, Bool.not_false] at h
          refine ql_v rfl (o_move (by conv => lhs; whnf)) ?_; refine ql_v rfl (o_move (by conv => lhs; whnf)) ?_; refine ql_v rfl (o_len Tryz.underlying47 rfl) ?_; refine ql_v rfl (o_geq rfl rfl) ?_; refine ql_v rfl (o_move (by conv => lhs; whnf)) ?_; refine ql_bool (d := 39) rfl (fun h => ?_) (fun h => ?_)
          · exfalso; simp at h; omega
          · try simp only [lv1, lv2, lv3, lv4, lv5, lv6, Bool.not_true, Bool.not_false] at h
            refine ql_skip rfl ?_; refine ql_skip rfl ?_; refine ql_skip rfl ?_; refine ql_skip rfl ?_; refine ql_skip rfl ?_; refine ql_skip rfl ?_; refine ql_skip rfl ?_; refine ql_skip rfl ?_; refine ql_skip rfl ?_; refine ql_skip rfl ?_; refine ql_skip rfl ?_; refine ql_v rfl (o_pick_f rfl (by conv => lhs; whnf)) ?_; refine ql_v rfl (o_pick_f rfl (by conv => lhs; whnf)) ?_; refine ql_nil ?_; refine q_then_n ?_; refine tc_cond_f rfl ?_; refine tc_skip ?_; refine q_block_n (q_then_n ?_); refine tc_reg ?_; refine tlm ?_; refine tv adqz ?_; refine tla ?_; refine nq ?_; exact ⟨_, by omega, i + 1, by omega, rfl, rfl, rfl, rfl, rfl, rfl⟩
      · have hge : n ≤ i := by simp at h; omega
        have hx := five_at hm hge hi
        refine ql_skip rfl ?_; refine ql_skip rfl ?_; refine ql_skip rfl ?_; refine ql_skip rfl ?_; refine ql_skip rfl ?_; refine ql_skip rfl ?_; refine ql_skip rfl ?_; refine ql_skip rfl ?_; refine ql_skip rfl ?_; refine ql_v rfl (o_pick_f rfl (by conv => lhs; whnf)) ?_; refine ql_v rfl (o_move (by conv => lhs; whnf)) ?_; refine ql_v rfl (o_move (by conv => lhs; whnf)) ?_; refine ql_v rfl (o_move (by conv => lhs; whnf)) ?_; refine ql_v rfl (o_len Tryz.underlying47 rfl) ?_; refine ql_v rfl (o_geq rfl rfl) ?_; refine ql_v rfl (o_move (by conv => lhs; whnf)) ?_; refine ql_bool (d := 39) rfl (fun h => ?_) (fun h => ?_)
        · try simp only [lv1, lv2, lv3, lv4, lv5, lv6, Bool.not_true, Bool.not_false] at h
          refine ql_v rfl (o_move (by conv => lhs; whnf)) ?_; refine ql_v rfl (o_move (by conv => lhs; whnf)) ?_; refine ql_v rfl (o_ixP (a := a) Tryz.underlying47 sz82 rfl rfl oqz (nn_rs hr (fun _ => by rw [xcl_len]; omega))) ?_; refine ql_v rfl (o_ldPN (a := a) (xs := xcl (l ++ fiveX 5)) (vs := xcs ((64 : Int), 1 + ((i - n : Nat) : Int))) a82 sz82 rfl hr (by rw [xcl_at hi, hx]) rfl (by decide)) ?_; refine ql_v rfl (o_move (by conv => lhs; whnf)) ?_; refine ql_v rfl (o_addI rfl rfl oqz) ?_; refine ql_v rfl (o_move (by conv => lhs; whnf)) ?_; refine ql_v rfl (o_len Tryz.underlying47 rfl) ?_; refine ql_v rfl (o_subI rfl rfl oqz) ?_; refine ql_env (d := 48) (v := .int .i64 (1 + ((i - n : Nat) : Int))) (by show Value.int .i64 _ = _; congr 1; omega) ?_; refine ql_v rfl (o_bS (l := [_, _]) (pv_cons (by conv => lhs; whnf) (pv_cons (by conv => lhs; whnf) pv_nil)) Tryz.underlying82 z82 (pl82 Tryz.underlying82) rfl) ?_; refine ql_v rfl (o_nest (k := 2) (l := [(64 : Int), 1 + ((i - n : Nat) : Int)]) (m := [(64 : Int), 1 + ((i - n : Nat) : Int)]) Tryz.underlying82 kqz kqz kqz rfl rfl rfl rfl) ?_; refine ql_env (d := 50) (v := .bool false) (by show Value.bool (!decide _) = _; simp) ?_; refine ql_v rfl (o_pick_t rfl (by conv => lhs; whnf)) ?_; refine ql_v rfl (o_pick_f rfl (by conv => lhs; whnf)) ?_; refine ql_nil ?_
          refine q_then_n ?_; refine tc_cond rfl (fun h => ?_) (fun h => ?_)
          · exfalso; simp at h
          · try simp only [lv1, lv2, lv3, lv4, lv5, lv6, Bool.not_true, Bool.not_false] at h
            refine tc_skip ?_; refine q_block_n (q_then_n ?_); refine tc_reg ?_; refine tlm ?_; refine tv adqz ?_; refine tla ?_; refine nq ?_; exact ⟨_, by omega, i + 1, by omega, rfl, rfl, rfl, rfl, rfl, rfl⟩
        · exfalso; simp at h; omega
    · try simp only [lv1, lv2, lv3, lv4, lv5, lv6, Bool.not_true, Bool.not_false] at h
      refine tc_exit ?_; refine q_then_e (q_then_e (q_block_x (q_then_n ?_))); refine tc_seq ?_; refine sr ?_; refine tla ?_; refine nq ?_; refine tc_block ?_; refine tc_loop (fun kk ρ BB => ∃ (i : Nat) (zs : List (Int × Int)), (i ≤ n) ∧ (zs.length = n + 5) ∧ kk = n - i ∧ ρ 7 = .int .i64 (i : Nat) ∧ ρ 0 = .slice a n c ∧ BB = R * Sl 2 (.slice a (n + 5) c) (n + 5) (xcl zs)) (m := n - (0)) ?_ ?_
      · exact ⟨0, l ++ fiveX 5, by omega, hfl, rfl, rfl, rfl, rfl⟩
      · intro k ρ B hI
        obtain ⟨i, zs, hq0, hq1, hkk2, hE7, hE0, rfl⟩ := hI
        refine tc_env (d := 7) hE7 ?_; refine tc_env (d := 0) hE0 ?_
        clear hE7 hE0
        refine tc_seq ?_; refine sr ?_; refine tlm ?_; refine tlm ?_; refine tv (o_len Tryz.underlying47 rfl) ?_; refine tv (o_lss rfl rfl) ?_; refine nq ?_; refine tc_cond rfl (fun h => ?_) (fun h => ?_)
        · have hi : i < n := by simp at h; omega
          have hiz : i < zs.length := by omega
          refine tc_skip ?_; refine q_then_n ?_; refine tc_seq ?_; refine tc_block ?_; refine tc_reg ?_; refine tlm ?_; refine tlm ?_; refine tv (o_bS (l := [_, _]) (pv_cons (by conv => lhs; whnf) (pv_cons (by conv => lhs; whnf) pv_nil)) Tryz.underlying82 z82 (pl82 Tryz.underlying82) rfl) ?_; refine tv (o_ixP (a := a) Tryz.underlying47 sz82 rfl rfl oqz (nn_rs (xs := xcl zs) rs_sl (fun _ => by rw [xcl_len]; omega))) ?_; refine tl_u rfl (o_stPN (vs := [.int .i64 64, .int .i64 7]) (ys := xcl (zs.set i ((64 : Int), (7 : Int)))) sz82 rfl rfl rfl rfl (by decide) ctqz oqz (by unfold xcl; exact fm_spl (k := 2) (f := xcs) (y := ((64 : Int), (7 : Int))) (fun _ _ => rfl) hiz rfl)) ?_; refine tl_nil ?_; refine q_block_n (q_then_n ?_); refine tc_reg ?_; refine tlm ?_; refine tv adqz ?_; refine tla ?_; refine nq ?_; exact ⟨_, by omega, i + 1, zs.set i ((64 : Int), (7 : Int)), by omega, by rw [List.length_set]; exact hq1, rfl, rfl, rfl, rfl⟩
        · try simp only [lv1, lv2, lv3, lv4, lv5, lv6, Bool.not_true, Bool.not_false] at h
          refine tc_exit ?_; refine q_then_e (q_then_e (q_block_x (q_then_n ?_))); refine sr ?_; refine tla ?_; refine nq ?_; refine tc_ret ?_; exact ⟨.bool true, R, res1 rfl rfl, Dr.sat drqz, rfl, rfl⟩
set_option maxRecDepth 20000 in
set_option maxHeartbeats 2000000 in
theorem ground_c {A : SP} {a sa : Option Addr} {m c sn sc : Nat} {far : Bool} {ln : Int} {xs : List Nat} (hr : Rs A a (bys xs) := by repeat (first | assumption | with_reducible exact rs_sl | with_reducible exact rs_pt0 | exact rs_none | apply Rs.left)) (hm : xs.length = m := by first | assumption | rfl) (hb : ∀ x ∈ xs, x < 256 := by assumption) (hln : -9223372036854775808 ≤ ln ∧ ln ≤ 9223372036854775807 := by assumption) (hml : m ≤ 140737488351232 := by omega) :
    Fn Tryz.prog 4 #[.agg #[.slice a m c, .bool far, .int .i64 ln, .slice sa sn sc]] (A) (fun v B => ∃ a2 c2 at_, at_ = (if far = true then 128 else 64) ∧ v = .tuple #[.slice a2 (64 * (8 + xs.length / 64 % 9)) c2, .int .i64 ((at_ : Nat) : Int), .int .i64 ((64 * (3 + (ln % 3).toNat) : Nat) : Int)] ∧ (64 * (8 + xs.length / 64 % 9)) ≤ c2 ∧ B = A * Sl 1 (.slice a2 (64 * (8 + xs.length / 64 % 9)) c2) (64 * (8 + xs.length / 64 % 9)) (bys (spl (sizedL (64 * (8 + xs.length / 64 % 9)) xs) at_ (List.replicate 8 0)))) := by
  refine fn_enterW (args := [.agg #[.slice a m c, .bool far, .int .i64 ln, .slice sa sn sc]]) Tryz.func4 rfl Tryz.ntmps4 (by simp) ?_
  have hl3 : 0 ≤ ln % 3 ∧ ln % 3 < 3 := ⟨Int.emod_nonneg _ (by decide), Int.emod_lt_of_pos _ (by decide)⟩
  have hsl := sizedL_len (64 * (8 + xs.length / 64 % 9)) xs
  refine sr ?_; refine tl_x rfl (o_box rfl rfl) ?_; rintro _ _ ⟨b1, rfl, rfl⟩; refine tla ?_; refine tla ?_; refine tla ?_; refine nq ?_; refine sr ?_; refine tv (o_fieldAddr (o := 0) Tryz.underlying25 rfl rfl sz22 rfl) ?_; refine tv (by first | exact o_load p22 rfl hsqz rfl | exact o_loadC p22 rfl (by assumption)) ?_; refine tv (o_len Tryz.underlying22 rfl) ?_; refine tv (o_quoN (b := 64) rfl rfl oqz) ?_; refine tl_c rfl (o_call bd17 rfl (within11_c (i := ((m / 64 : Nat) : Int)) (n := 9))) ?_; rintro _ _ ⟨rfl, rfl⟩; refine tv (o_addI rfl rfl oqz) ?_; refine tl_env (d := 14) (v := .int .i64 ((8 + xs.length / 64 % 9 : Nat) : Int)) (by show Value.int .i64 _ = _; congr 1; subst hm; omega) ?_; refine tv (o_mulI rfl rfl oqz) ?_; refine tl_env (d := 15) (v := .int .i64 (((64 * (8 + xs.length / 64 % 9)) : Nat) : Int)) (by first | (show Value.int .i64 _ = _; congr 1; omega) | (show Value.int .i64 _ = _; congr 1)) ?_; refine tla ?_; refine nq ?_; refine sr ?_; refine tv (o_fieldAddr (o := 0) Tryz.underlying25 rfl rfl sz22 rfl) ?_; refine tv (by first | exact o_load p22 rfl hsqz rfl | exact o_loadC p22 rfl (by assumption)) ?_
  refine tlm ?_; refine tl_c rfl (o_call bd18 rfl (Sized_c (n := (64 * (8 + xs.length / 64 % 9))) (xs := xs))) ?_; rintro _ _ ⟨a19, c19, rfl, hc19, rfl⟩; refine tla ?_; refine nq ?_; refine sr ?_; refine tla ?_; refine nq ?_; refine tc_seq ?_; refine sr ?_; refine tv (o_fieldAddr (o := 1) Tryz.underlying25 rfl rfl sz4 rfl) ?_; refine tv (by first | exact o_load p4 rfl hsqz rfl | exact o_loadC p4 rfl (by assumption)) ?_; refine nq ?_; refine tc_cut (fun ρ BB => ∃ (at_ : Nat), (at_ = (if far = true then 128 else 64)) ∧ ρ 7 = .int .i64 (at_ : Nat) ∧ ρ 1 = .pointer (some ⟨b1, 0, none⟩) ∧ ρ 6 = .slice a19 (64 * (8 + xs.length / 64 % 9)) c19 ∧ BB = A * pt b1 (cl [.slice a m c, .bool far, .int .i64 ln, .slice sa sn sc] 25) * Sl 1 (.slice a19 (64 * (8 + xs.length / 64 % 9)) c19) (64 * (8 + xs.length / 64 % 9)) (bys (sizedL (64 * (8 + xs.length / 64 % 9)) xs))) ?_ ?_
  · skip
    refine tc_cond rfl (fun h => ?_) (fun h => ?_)
    · try simp only [lv1, lv2, lv3, lv4, lv5, lv6, Bool.not_true, Bool.not_false] at h
      refine tc_reg ?_; refine tla ?_; refine tl_nil ?_; exact ⟨128, by first | (rw [if_pos h]) | (rw [if_neg (by simpa using h)]), rfl, rfl, rfl, rfl⟩
    · try simp only [lv1, lv2, lv3, lv4, lv5, lv6, Bool.not_true, Bool.not_false] at h
      refine tc_skip ?_; exact ⟨64, by first | (rw [if_pos h]) | (rw [if_neg (by simpa using h)]), rfl, rfl, rfl, rfl⟩
  · intro ρ B hI
    obtain ⟨at_, hat0, hE7, hE1, hE6, rfl⟩ := hI
    refine q_then_n ?_; refine tc_env (d := 7) hE7 ?_; refine tc_env (d := 1) hE1 ?_; refine tc_env (d := 6) hE6 ?_
    clear hE7 hE1 hE6
    refine tc_seq ?_; refine tc_seq ?_
    have hat := hat0
    have hatb : at_ ≤ 128 := by rw [hat]; split <;> omega
    refine tc_reg ?_; refine tla ?_; refine nq ?_; refine tc_block ?_; refine tc_loop (fun kk ρ BB => ∃ (k : Nat), (k ≤ 8) ∧ kk = 8 - k ∧ ρ 8 = .int .i64 (k : Nat) ∧ ρ 1 = .pointer (some ⟨b1, 0, none⟩) ∧ ρ 6 = .slice a19 (64 * (8 + xs.length / 64 % 9)) c19 ∧ ρ 7 = .int .i64 (at_ : Nat) ∧ Dr BB (A * pt b1 (cl [.slice a m c, .bool far, .int .i64 ln, .slice sa sn sc] 25) * Sl 1 (.slice a19 (64 * (8 + xs.length / 64 % 9)) c19) (64 * (8 + xs.length / 64 % 9)) (bys (spl (sizedL (64 * (8 + xs.length / 64 % 9)) xs) at_ (List.replicate k 0))))) (m := 8 - (0)) ?_ ?_
    · exact ⟨0, by omega, rfl, rfl, rfl, rfl, rfl, by rw [List.replicate_zero, spl_nil]; repeat (first | with_reducible exact dr_refl | apply dr_keep | apply dr_drop)⟩
    · intro k ρ B hI
      obtain ⟨k, hp0, hkk1, hE8, hE1, hE6, hE7, hBA⟩ := hI
      refine tc_pre hBA.sat ?_
      clear hBA
      refine tc_env (d := 8) hE8 ?_; refine tc_env (d := 1) hE1 ?_; refine tc_env (d := 6) hE6 ?_; refine tc_env (d := 7) hE7 ?_
      clear hE8 hE1 hE6 hE7
      refine tc_seq ?_; refine sr ?_; refine tlm ?_; refine tv (o_lss rfl rfl) ?_; refine nq ?_; refine tc_cond rfl (fun h => ?_) (fun h => ?_)
      · have hk : k < 8 := by simp at h; omega
        have hkl : (spl (sizedL (64 * (8 + xs.length / 64 % 9)) xs) at_ (List.replicate k 0)).length = (64 * (8 + xs.length / 64 % 9)) := by rw [spl_length (by rw [List.length_replicate, hsl]; omega), hsl]
        refine tc_skip ?_; refine q_then_n ?_; refine tc_seq ?_; refine tc_block ?_; refine tc_reg ?_; refine tlm ?_; refine tlm ?_; refine tlm ?_; refine tv adqz ?_; refine tv (o_ixP1 Tryz.underlying22 sz5 rfl rfl oqz (nn_rs rs_sl (by rw [bys_length, hkl]; omega))) ?_; refine tl_u rfl (o_stP (ys := bys (spl (sizedL (64 * (8 + xs.length / 64 % 9)) xs) at_ (List.replicate (k + 1) 0))) sz5 rfl rfl rfl ctqz oqz (by rw [← spl_zero oqz]; exact bys_set _ _ 0)) ?_; refine tl_nil ?_; refine q_block_n (q_then_n ?_); refine tc_reg ?_; refine tlm ?_; refine tv adqz ?_; refine tla ?_; refine nq ?_; exact ⟨_, by omega, k + 1, by omega, rfl, rfl, rfl, rfl, rfl, drqz⟩
      · obtain rfl : k = 8 := by simp at h; omega
        refine tc_exit ?_; refine q_then_e (q_then_e (q_block_x (q_then_n ?_))); refine sr ?_; refine tlm ?_; refine tlm ?_; refine tv (o_fieldAddr (o := 2) Tryz.underlying25 rfl rfl sz3 rfl) ?_; refine tv (by first | exact o_load p3 rfl hsqz rfl | exact o_loadC p3 rfl (by assumption)) ?_; refine tl_c rfl (o_call bd17 rfl (within11_c (i := ln) (n := 3))) ?_; rintro _ _ ⟨rfl, rfl⟩; refine tv (o_addI rfl rfl oqz) ?_; refine tv (o_mulI rfl rfl oqz) ?_; refine tl_env (d := 37) (v := .int .i64 ((64 * (3 + (ln % 3).toNat) : Nat) : Int)) (by show Value.int .i64 _ = _; congr 1; omega) ?_; refine tla ?_; refine tla ?_; refine tla ?_; refine nq ?_; refine tc_ret ?_; exact ⟨_, _, res3 rfl rfl rfl rfl, Dr.sat drqz, a19, c19, at_, hat, rfl, hc19, rfl⟩
end Go.Vl

namespace Go.Vl
open Go Go.Proofs
theorem sq3z {p : Prop} (h : p := by repeat (first | with_reducible exact rs_sl | with_reducible exact rs_pt0 | apply Rs.left)) : p := h
/-- A step's parts. -/
structure StU where
  k : Int
  q : Int
  n : Int
  ea : Option Addr
  ec : Nat
  es : List (Int × Int)
  da : Option Addr
  dc : Nat
  d : List Nat
  ka : Option Addr
  kc : Nat
  kp : List Int
def StU.cells (t : StU) : List Value := [.int .i64 t.k, .int .i64 t.q, .int .i64 t.n, .slice t.ea t.es.length t.ec, .slice t.da t.d.length t.dc, .slice t.ka t.kp.length t.kc]
structure StUW (A : SP) (t : StU) : Prop where
  k : -9223372036854775808 ≤ t.k ∧ t.k ≤ 9223372036854775807
  q : -9223372036854775808 ≤ t.q ∧ t.q ≤ 9223372036854775807
  n : -9223372036854775808 ≤ t.n ∧ t.n ≤ 9223372036854775807
  ers : Rs A t.ea (xcl t.es)
  ex : ∀ x ∈ t.es, XW x
  dcap : t.d.length ≤ t.dc
  drs : Rs A t.da (bys t.d)
  dby : ∀ x ∈ t.d, x < 256
  kcap : t.kp.length ≤ t.kc
  krs : Rs A t.ka (ints t.kp)
  kb : ∀ x ∈ t.kp, -9223372036854775808 ≤ x ∧ x ≤ 9223372036854775807
def StU.sz (t : StU) : Nat := t.es.length + t.d.length + t.kp.length + 1
theorem StUW.left {A X : SP} {t : StU} (h : StUW A t) : StUW (A * X) t := ⟨h.k, h.q, h.n, h.ers.left, h.ex, h.dcap, h.drs.left, h.dby, h.kcap, h.krs.left, h.kb⟩
def xf11 (x : Nat) : Nat := (IntKind.u8.wrap ((BitVec.ofInt IntKind.u8.bits (x : Int) ^^^ BitVec.ofInt IntKind.u8.bits 255).toNat : Int)).toNat
theorem xf11_val (x : Nat) : Value.int .u8 (IntKind.u8.wrap ((BitVec.ofInt IntKind.u8.bits (x : Int) ^^^ BitVec.ofInt IntKind.u8.bits 255).toNat : Int)) = .int .u8 ((xf11 x : Nat) : Int) := by
  have h : 0 ≤ IntKind.u8.wrap ((BitVec.ofInt IntKind.u8.bits (x : Int) ^^^ BitVec.ofInt IntKind.u8.bits 255).toNat : Int) := by simp [IntKind.wrap, IntKind.bits, IntKind.signed]; omega
  unfold xf11; rw [Int.toNat_of_nonneg h]
theorem cr_len (kp : List Int) (s : DevS) : (crS kp s).2.ls.length = s.ls.length := by
  unfold crS
  split
  · rfl
  · split
    · rfl
    · simp only [goesS, goPart_length]
theorem arm_len (ars : List (Int × List Int)) (s : DevS) : (armS ars s).2.ls.length = s.ls.length := by
  unfold armS
  split
  · rfl
  · split
    · rfl
    · split <;> rfl
theorem recs_small {at_ sz : Nat} {s : DevS} {L : List (Nat × List Nat)} {e : Int} (hw : WfD s) (hlw : LogW (s.ls.length * 64) at_ sz) (h : recordsS at_ sz s = (L, e)) : (∀ x ∈ L, x.2.length ≤ 4294967296) ∧ L.length ≤ sz := by
  by_cases he : e = 0
  · subst he
    obtain ⟨h1, h2⟩ := records_ok hw hlw h
    have htop := hw.top
    refine ⟨fun x hx => ?_, by omega⟩
    obtain ⟨p, m, hz, y1, y2, y3, y4⟩ := may_nat (h1 x hx).1
    simp only [Prod.mk.injEq, Int.ofNat_inj] at hz
    omega
  · have hn : L = [] := by
      unfold recordsS at h
      split at h
      · exact (Prod.mk.inj h).1.symm
      · rw [recs_err (by rw [h]; exact he)] at h
        exact (Prod.mk.inj h).1.symm
    subst hn
    exact ⟨fun x hx => (by cases hx), (by simp)⟩
theorem zs_at1 {L : List (Nat × List Nat)} {vs zs : List Value} {i : Nat} {xb : Option Addr} {xc : Nat} (h : zs.drop (i * 2) = (kcl L vs).drop (i * 2)) (hvs : vs.length = L.length) (hi : i < L.length) (hv : vs.getD i (.slice none 0 0) = .slice xb (L.getD i (0, [])).2.length xc) : zs[i * 2 + 1]? = some (.slice xb (L.getD i (0, [])).2.length xc) := by
  have h1 : (zs.drop (i * 2))[1]? = ((kcl L vs).drop (i * 2))[1]? := by rw [h]
  rw [List.getElem?_drop, List.getElem?_drop, kcl_a1 hvs hi, hv] at h1
  exact h1
theorem zs_next {zs ks : List Value} {i : Nat} {a b : Value} (h : zs.drop (i * 2) = ks.drop (i * 2)) : ((zs.set (i * 2) a).set (i * 2 + 1) b).drop ((i + 1) * 2) = ks.drop ((i + 1) * 2) := by
  rw [List.drop_set_of_lt oqz, List.drop_set_of_lt oqz]
  have h1 := congrArg (List.drop 2) h
  rwa [List.drop_drop, List.drop_drop, show i * 2 + 2 = (i + 1) * 2 by omega] at h1
theorem parts_drop {L : List (Nat × List Nat)} {vs : List Value} {i : Nat} {xb : Option Addr} {xc : Nat} (hvs : vs.length = L.length) (hi : i < L.length) (hv : vs.getD i (.slice none 0 0) = .slice xb (L.getD i (0, [])).2.length xc) :
    Parts (vs.drop i) ((L.map (·.2)).drop i) = Parts (vs.drop (i + 1)) ((L.map (·.2)).drop (i + 1)) * Sl 1 (.slice xb (L.getD i (0, [])).2.length xc) (L.getD i (0, [])).2.length (bys (L.getD i (0, [])).2) := by
  rw [List.drop_eq_getElem_cons (show i < vs.length by omega), List.drop_eq_getElem_cons (show i < (L.map (·.2)).length by rw [List.length_map]; exact hi)]
  have e1 : vs[i]'oqz = .slice xb (L.getD i (0, [])).2.length xc := by
    rw [← hv, List.getD_eq_getElem?_getD, List.getElem?_eq_getElem oqz]; rfl
  have e2 : (L.map (·.2))[i]'(by rw [List.length_map]; exact hi) = (L.getD i (0, [])).2 := by
    rw [List.getElem_map, List.getD_eq_getElem?_getD, List.getElem?_eq_getElem hi]; rfl
  rw [e1, e2]
  show Parts (_ :: _) (_ :: _) = _
  rw [Parts]
attribute [local irreducible] crk crL crc Sl pt ro Dev RDev imgS recS readS recsF rdW rdO rkT Parts rvl recordsS mdI mdK rise mds writeS rollS clearS oldsL kcl xcl lensX lst brL brX fiveX
set_option maxRecDepth 20000 in
set_option maxHeartbeats 4000000 in
theorem step11_c {F A : SP} {b d bl r bk at_ sz k : Nat} {s : DevS} {t : StU} (hA : A = F * pt b (cl [.pointer (some ⟨d, 0, none⟩), .pointer (some ⟨bl, 0, none⟩), .pointer (some ⟨r, 0, none⟩), .pointer (some ⟨bk, 0, none⟩)] 45) * pt bl (cl (lcs11 d at_ sz) 94) * pt bk (cl (lcs11 r at_ sz) 96) * Dev d s * RDev r s) (hw : StUW F t) (hlw : LogW (s.ls.length * 64) at_ sz) (hroom : Room (sz + 1 + (t.d.length + k) + 1) s) (hsz : t.sz ≤ 1048576) :
    Fn Tryz.prog 11 #[.pointer (some ⟨b, 0, none⟩), .agg t.cells.toArray, .int .i64 (at_ : Nat)] (A) (fun v B => ∃ s2, v = .bool true ∧ s2.ls.length = s.ls.length ∧ Room k s2 ∧ B = F * pt b (cl [.pointer (some ⟨d, 0, none⟩), .pointer (some ⟨bl, 0, none⟩), .pointer (some ⟨r, 0, none⟩), .pointer (some ⟨bk, 0, none⟩)] 45) * pt bl (cl (lcs11 d at_ sz) 94) * pt bk (cl (lcs11 r at_ sz) 96) * Dev d s2 * RDev r s2) := by
  refine fn_enterW (args := [.pointer (some ⟨b, 0, none⟩), .agg t.cells.toArray, .int .i64 (at_ : Nat)]) Tryz.func11 rfl Tryz.ntmps11 (by simp) ?_
  subst hA
  refine tc_have (fun _ _ h => wfR_ct ctqz h) fun hwf => ?_
  have hq := hw.q
  have hn := hw.n
  have her := hw.ers
  have hX := hw.ex
  have hdc := hw.dcap
  have hdr := hw.drs
  have hkr := hw.krs
  have hkc := hw.kcap
  have hdb := hw.dby
  have htop := hwf.top
  have hsz2 := hsz
  unfold StU.sz at hsz2
  have hkk : ∀ k ∈ t.kp, k ≤ 9223372036854775807 := fun k hk => (hw.kb k hk).2
  have hg : Gd s.ls.length (sz + 1 + (t.d.length + k)) s := ⟨rfl, room_le hroom oqz, hwf⟩
  have hrw : Room (sz + 1) s := room_le hroom oqz
  have hr1 : Room 1 s := room_le hroom oqz
  have hrk : Room k s := room_le hroom oqz
  have hrk1 : Room (k + 1) s := room_le hroom oqz
  have hrd : Room t.d.length s := room_le hroom oqz
  have hrdk : Room (k + t.d.length) s := room_le hroom oqz
  obtain ⟨w1, w2, w3, w4, w5⟩ := id hlw
  refine sr ?_; refine tl_x rfl (o_box rfl rfl) ?_; rintro _ _ ⟨b4, rfl, rfl⟩; refine tla ?_; refine nq ?_; refine tc_seq ?_; refine sr ?_; refine tv (o_fieldAddr (o := 0) Tryz.underlying50 rfl rfl sz3 rfl) ?_; refine tv (by first | exact o_load p3 rfl hsqz rfl | exact o_loadC p3 rfl (by assumption)) ?_; refine nq ?_; refine tc_block ?_; refine sr ?_; refine tv (o_eqi rfl rfl) ?_; refine tla ?_; refine nq ?_; refine tc_cond rfl (fun h => ?_) (fun h => ?_)
  · try simp only [lv1, lv2, lv3, lv4, lv5, lv6, Bool.not_true, Bool.not_false] at h
    refine sr ?_; refine tv (o_fieldAddr (o := 3) Tryz.underlying50 rfl rfl sz47 rfl) ?_; refine tv (by first | exact o_load p47 rfl hsqz rfl | exact o_loadC p47 rfl (by assumption)) ?_; refine tl_c rfl (o_call bd29 rfl (extents_c (l := t.es))) ?_; rintro _ _ ⟨a26, c26, rfl, hc26, rfl⟩; refine tla ?_; refine nq ?_; refine tc_seq ?_; refine tc_regh (S := F * pt b (cl [.pointer (some ⟨d, 0, none⟩), .pointer (some ⟨bl, 0, none⟩), .pointer (some ⟨r, 0, none⟩), .pointer (some ⟨bk, 0, none⟩)] 45) * pt bl (cl (lcs11 d at_ sz) 94) * pt bk (cl (lcs11 r at_ sz) 96) * pt b4 (cl t.cells 50)) mo drqz ?_
    show TH _ _ _ _ _ 21 #[ff,ff,ff,ff,ff,ff,ff,ff,ff,ff,ff,ff,ff,ff,ff,ff,ff,ff,ff,ff,ff] _ _
    refine th_take (i := 0) (listed' := #[tt,ff,ff,ff,ff,ff,ff,ff,ff,ff,ff,ff,ff,ff,ff,ff,ff,ff,ff,ff,ff]) rfl kqz kqz kqz rfl rfl (o_move (by conv => lhs; whnf)) ?_; refine th_take (i := 1) (listed' := #[tt,tt,ff,ff,ff,ff,ff,ff,ff,ff,ff,ff,ff,ff,ff,ff,ff,ff,ff,ff,ff]) rfl kqz kqz kqz rfl rfl (o_nilCheck rfl) ?_; refine th_take (i := 2) (listed' := #[tt,tt,tt,ff,ff,ff,ff,ff,ff,ff,ff,ff,ff,ff,ff,ff,ff,ff,ff,ff,ff]) rfl kqz kqz kqz rfl rfl (o_fieldAddr (o := 1) Tryz.underlying45 rfl rfl sz37 rfl) ?_; refine th_take (i := 3) (listed' := #[tt,tt,tt,tt,ff,ff,ff,ff,ff,ff,ff,ff,ff,ff,ff,ff,ff,ff,ff,ff,ff]) rfl kqz kqz kqz rfl rfl (by first | exact o_load p37 rfl hsqz rfl | exact o_loadC p37 rfl (by assumption)) ?_; refine th_take (i := 4) (listed' := #[tt,tt,tt,tt,tt,ff,ff,ff,ff,ff,ff,ff,ff,ff,ff,ff,ff,ff,ff,ff,ff]) rfl kqz kqz kqz rfl rfl (o_move (by conv => lhs; whnf)) ?_; refine th_take (i := 6) (listed' := #[tt,tt,tt,tt,tt,ff,tt,ff,ff,ff,ff,ff,ff,ff,ff,ff,ff,ff,ff,ff,ff]) rfl kqz kqz kqz rfl rfl (o_move (by conv => lhs; whnf)) ?_; refine th_take (i := 7) (listed' := #[tt,tt,tt,tt,tt,ff,tt,tt,ff,ff,ff,ff,ff,ff,ff,ff,ff,ff,ff,ff,ff]) rfl kqz kqz kqz rfl rfl (o_nilCheck rfl) ?_
    refine th_take (i := 8) (listed' := #[tt,tt,tt,tt,tt,ff,tt,tt,tt,ff,ff,ff,ff,ff,ff,ff,ff,ff,ff,ff,ff]) rfl kqz kqz kqz rfl rfl (o_fieldAddr (o := 3) Tryz.underlying45 rfl rfl sz40 rfl) ?_; refine th_take (i := 9) (listed' := #[tt,tt,tt,tt,tt,ff,tt,tt,tt,tt,ff,ff,ff,ff,ff,ff,ff,ff,ff,ff,ff]) rfl kqz kqz kqz rfl rfl (by first | exact o_load p40 rfl hsqz rfl | exact o_loadC p40 rfl (by assumption)) ?_; refine th_take (i := 10) (listed' := #[tt,tt,tt,tt,tt,ff,tt,tt,tt,tt,tt,ff,ff,ff,ff,ff,ff,ff,ff,ff,ff]) rfl kqz kqz kqz rfl rfl (o_fieldAddr (o := 3) Tryz.underlying50 rfl rfl sz47 rfl) ?_; refine th_take (i := 11) (listed' := #[tt,tt,tt,tt,tt,ff,tt,tt,tt,tt,tt,tt,ff,ff,ff,ff,ff,ff,ff,ff,ff]) rfl kqz kqz kqz rfl rfl (by first | exact o_load p47 rfl hsqz rfl | exact o_loadC p47 rfl (by assumption)) ?_; refine th_one (i := 5) kqz ?_; refine oh_c (i := 5) (listed' := #[tt,tt,tt,tt,tt,tt,tt,tt,tt,tt,tt,tt,ff,ff,ff,ff,ff,ff,ff,ff,ff]) rfl rfl rfl (o_call bd23 rfl (Write_c (s := s) (xs := t.es) (hr := rs_five (l := t.es) sq3z rfl))) ?_; rintro _ _ ⟨e32, s32, hs32, rfl, rfl⟩
    refine ⟨by repeat (first | with_reducible exact dr_refl | apply dr_keep | apply dr_drop), ?_⟩; refine th_one (i := 12) kqz ?_; refine oh_c (i := 12) (listed' := #[tt,tt,tt,tt,tt,tt,tt,tt,tt,tt,tt,tt,tt,ff,ff,ff,ff,ff,ff,ff,ff]) rfl rfl rfl (o_call bd30 rfl (rWrite_c (s := s) (xs := t.es))) ?_; rintro _ _ ⟨e39, s39, hs39, rfl, rfl⟩; refine ⟨by repeat (first | with_reducible exact dr_refl | apply dr_keep | apply dr_drop), ?_⟩
    obtain ⟨rfl, rfl⟩ : e32 = e39 ∧ s32 = s39 := by rw [hs32] at hs39; simpa using hs39
    have hgw := gd_write (at_ := at_) (sz := sz) (l := t.es) hg oqz
    rw [hs32] at hgw
    refine th_take (i := 13) (listed' := #[tt,tt,tt,tt,tt,tt,tt,tt,tt,tt,tt,tt,tt,tt,ff,ff,ff,ff,ff,ff,ff]) rfl kqz kqz kqz rfl rfl (o_eqi rfl rfl) ?_; refine th_env (d := 40) (v := .bool true) (by show Value.bool (decide (_ = _)) = _; simp) ?_; refine th_take (i := 14) (listed' := #[tt,tt,tt,tt,tt,tt,tt,tt,tt,tt,tt,tt,tt,tt,tt,ff,ff,ff,ff,ff,ff]) rfl kqz kqz kqz rfl rfl (o_move (by conv => lhs; whnf)) ?_; refine th_bool (d := 41) rfl (fun h => ?_) (fun h => ?_)
    · try simp only [lv1, lv2, lv3, lv4, lv5, lv6, Bool.not_true, Bool.not_false] at h
      refine th_take (i := 15) (listed' := #[tt,tt,tt,tt,tt,tt,tt,tt,tt,tt,tt,tt,tt,tt,tt,tt,ff,ff,ff,ff,ff]) rfl kqz kqz kqz rfl rfl (o_move (by conv => lhs; whnf)) ?_; refine th_take (i := 16) (listed' := #[tt,tt,tt,tt,tt,tt,tt,tt,tt,tt,tt,tt,tt,tt,tt,tt,tt,ff,ff,ff,ff]) rfl kqz kqz kqz rfl rfl (o_fieldAddr (o := 3) Tryz.underlying50 rfl rfl sz47 rfl) ?_; refine th_take (i := 17) (listed' := #[tt,tt,tt,tt,tt,tt,tt,tt,tt,tt,tt,tt,tt,tt,tt,tt,tt,tt,ff,ff,ff]) rfl kqz kqz kqz rfl rfl (by first | exact o_load p47 rfl hsqz rfl | exact o_loadC p47 rfl (by assumption)) ?_; refine th_one (i := 18) kqz ?_; refine oh_c (i := 18) (listed' := #[tt,tt,tt,tt,tt,tt,tt,tt,tt,tt,tt,tt,tt,tt,tt,tt,tt,tt,tt,ff,ff]) rfl rfl rfl (o_call bd31 rfl (kept11_c (l := t.es))) ?_; rintro _ _ ⟨rfl, rfl⟩; refine ⟨by repeat (first | with_reducible exact dr_refl | apply dr_keep | apply dr_drop), ?_⟩; refine th_take (i := 19) (listed' := #[tt,tt,tt,tt,tt,tt,tt,tt,tt,tt,tt,tt,tt,tt,tt,tt,tt,tt,tt,tt,ff]) rfl kqz kqz kqz rfl rfl (o_pick_t rfl (by conv => lhs; whnf)) ?_; refine th_take (i := 20) (listed' := #[tt,tt,tt,tt,tt,tt,tt,tt,tt,tt,tt,tt,tt,tt,tt,tt,tt,tt,tt,tt,tt]) rfl kqz kqz kqz rfl rfl (o_assign (by conv => lhs; whnf)) ?_
      refine th_done kqz ?_; refine q_then_n ?_; refine tc_ret ?_; refine q_block_r (q_then_r ?_); refine ⟨.bool true, _, res1 rfl rfl, ?_, s32, rfl, hgw.len, (hgw.le oqz).room, rfl⟩; exact Dr.sat drqz
    · exfalso; simp at h
  · try simp only [lv1, lv2, lv3, lv4, lv5, lv6, Bool.not_true, Bool.not_false] at h
    refine sr ?_; refine tv (o_eqi rfl rfl) ?_; refine tla ?_; refine nq ?_; refine tc_cond rfl (fun h => ?_) (fun h => ?_)
    · try simp only [lv1, lv2, lv3, lv4, lv5, lv6, Bool.not_true, Bool.not_false] at h
      refine tc_seq ?_; refine tc_regh (S := F * pt b (cl [.pointer (some ⟨d, 0, none⟩), .pointer (some ⟨bl, 0, none⟩), .pointer (some ⟨r, 0, none⟩), .pointer (some ⟨bk, 0, none⟩)] 45) * pt bl (cl (lcs11 d at_ sz) 94) * pt bk (cl (lcs11 r at_ sz) 96) * pt b4 (cl t.cells 50)) mo drqz ?_
      show TH _ _ _ _ _ 12 #[ff,ff,ff,ff,ff,ff,ff,ff,ff,ff,ff,ff] _ _
      refine th_take (i := 0) (listed' := #[tt,ff,ff,ff,ff,ff,ff,ff,ff,ff,ff,ff]) rfl kqz kqz kqz rfl rfl (o_move (by conv => lhs; whnf)) ?_; refine th_take (i := 1) (listed' := #[tt,tt,ff,ff,ff,ff,ff,ff,ff,ff,ff,ff]) rfl kqz kqz kqz rfl rfl (o_nilCheck rfl) ?_; refine th_take (i := 2) (listed' := #[tt,tt,tt,ff,ff,ff,ff,ff,ff,ff,ff,ff]) rfl kqz kqz kqz rfl rfl (o_fieldAddr (o := 1) Tryz.underlying45 rfl rfl sz37 rfl) ?_; refine th_take (i := 3) (listed' := #[tt,tt,tt,tt,ff,ff,ff,ff,ff,ff,ff,ff]) rfl kqz kqz kqz rfl rfl (by first | exact o_load p37 rfl hsqz rfl | exact o_loadC p37 rfl (by assumption)) ?_; refine th_take (i := 5) (listed' := #[tt,tt,tt,tt,ff,tt,ff,ff,ff,ff,ff,ff]) rfl kqz kqz kqz rfl rfl (o_move (by conv => lhs; whnf)) ?_; refine th_take (i := 6) (listed' := #[tt,tt,tt,tt,ff,tt,tt,ff,ff,ff,ff,ff]) rfl kqz kqz kqz rfl rfl (o_nilCheck rfl) ?_; refine th_take (i := 7) (listed' := #[tt,tt,tt,tt,ff,tt,tt,tt,ff,ff,ff,ff]) rfl kqz kqz kqz rfl rfl (o_fieldAddr (o := 3) Tryz.underlying45 rfl rfl sz40 rfl) ?_; refine th_take (i := 8) (listed' := #[tt,tt,tt,tt,ff,tt,tt,tt,tt,ff,ff,ff]) rfl kqz kqz kqz rfl rfl (by first | exact o_load p40 rfl hsqz rfl | exact o_loadC p40 rfl (by assumption)) ?_
      refine th_one (i := 4) kqz ?_; refine oh_c (i := 4) (listed' := #[tt,tt,tt,tt,tt,tt,tt,tt,tt,ff,ff,ff]) rfl rfl rfl (o_call bd32 rfl (Clear_c (s := s))) ?_; rintro _ _ ⟨e53, s53, hs53, rfl, rfl⟩; refine ⟨by repeat (first | with_reducible exact dr_refl | apply dr_keep | apply dr_drop), ?_⟩; refine th_one (i := 9) kqz ?_; refine oh_c (i := 9) (listed' := #[tt,tt,tt,tt,tt,tt,tt,tt,tt,tt,ff,ff]) rfl rfl rfl (o_call bd33 rfl (rClear_c (s := s))) ?_; rintro _ _ ⟨e58, s58, hs58, rfl, rfl⟩; refine ⟨by repeat (first | with_reducible exact dr_refl | apply dr_keep | apply dr_drop), ?_⟩
      obtain ⟨rfl, rfl⟩ : e53 = e58 ∧ s53 = s58 := by rw [hs53] at hs58; simpa using hs58
      have hgc := gd_clear (at_ := at_) (k := k) (hg.le oqz)
      rw [hs53] at hgc
      refine th_take (i := 10) (listed' := #[tt,tt,tt,tt,tt,tt,tt,tt,tt,tt,tt,ff]) rfl kqz kqz kqz rfl rfl (o_eqi rfl rfl) ?_; refine th_env (d := 59) (v := .bool true) (by show Value.bool (decide (_ = _)) = _; simp) ?_; refine th_take (i := 11) (listed' := #[tt,tt,tt,tt,tt,tt,tt,tt,tt,tt,tt,tt]) rfl kqz kqz kqz rfl rfl (o_assign (by conv => lhs; whnf)) ?_; refine th_done kqz ?_; refine q_then_n ?_; refine tc_ret ?_; refine q_block_r (q_then_r ?_); refine ⟨.bool true, _, res1 rfl rfl, ?_, s53, rfl, hgc.len, hgc.room, rfl⟩; exact Dr.sat drqz
    · try simp only [lv1, lv2, lv3, lv4, lv5, lv6, Bool.not_true, Bool.not_false] at h
      refine sr ?_; refine tv (o_eqi rfl rfl) ?_; refine tla ?_; refine nq ?_; refine tc_cond rfl (fun h => ?_) (fun h => ?_)
      · try simp only [lv1, lv2, lv3, lv4, lv5, lv6, Bool.not_true, Bool.not_false] at h
        refine tc_seq ?_
        obtain ⟨L, e0, hL⟩ : ∃ L e0, recordsS at_ sz s = (L, e0) := ⟨_, _, rfl⟩
        obtain ⟨hL3, hLn⟩ := recs_small hwf hlw hL
        refine tc_reg ?_; refine tlm ?_; refine tv (o_nilCheck rfl) ?_; refine tv (o_fieldAddr (o := 1) Tryz.underlying45 rfl rfl sz37 rfl) ?_; refine tv (by first | exact o_load p37 rfl hsqz rfl | exact o_loadC p37 rfl (by assumption)) ?_; refine tl_c rfl (o_call bd25 rfl (Records_w (s := s) (hX := hL))) ?_; rintro _ _ ⟨a67, c67, vs, rfl, hc67, hvs, rfl⟩; refine tl_have (fun _ _ h => parts_getD hvs h.left) fun hps => ?_; refine tlm ?_; refine tv (o_extract rfl rfl) ?_; refine tv (o_extract rfl rfl) ?_; refine tla ?_; refine tla ?_; refine nq ?_; refine sr ?_; refine tlm ?_; refine tv (o_nilCheck rfl) ?_; refine tv (o_fieldAddr (o := 3) Tryz.underlying45 rfl rfl sz40 rfl) ?_; refine tv (by first | exact o_load p40 rfl hsqz rfl | exact o_loadC p40 rfl (by assumption)) ?_; refine tl_c rfl (o_call bd34 rfl (rRecords_w (s := s) (hX := hL))) ?_; rintro _ _ ⟨a75, c75, us, rfl, hc75, hus, rfl⟩; refine tl_have (fun _ _ h => parts_getD hus h.left) fun hpu => ?_; refine tlm ?_; refine tv (o_extract rfl rfl) ?_; refine tv (o_extract rfl rfl) ?_; refine tla ?_
        refine tla ?_; refine nq ?_; refine sr ?_; refine tlm ?_; refine tlm ?_; refine tv (o_eqi rfl rfl) ?_; refine tl_env (d := 80) (v := .bool true) (by show Value.bool (decide (_ = _)) = _; simp) ?_; refine tlm ?_; refine tl_bool (d := 81) rfl (fun h => ?_) (fun h => ?_)
        · try simp only [lv1, lv2, lv3, lv4, lv5, lv6, Bool.not_true, Bool.not_false] at h
          refine tlm ?_; refine tlm ?_; refine tl_c rfl (o_call bd35 rfl (sameRecords_c (La := L) (Lb := L) (ha := (by repeat (first | with_reducible exact rs_sl | with_reducible exact rs_pt0 | apply Rs.left))) (hb := (by repeat (first | with_reducible exact rs_sl | with_reducible exact rs_pt0 | apply Rs.left))) (hva := hvs) (hvb := hus) (hna := rfl) (hnb := rfl) (hpa := by repeat (first | exact psr_of hvs hps hL3 | apply PsR.left)) (hpb := by repeat (first | exact psr_of hus hpu hL3 | apply PsR.left)))) ?_; rintro _ _ ⟨rfl, rfl⟩; refine tl_env (d := 84) (v := .bool true) (by show Value.bool (decide (L = L)) = _; simp) ?_; refine tv (o_pick_t rfl (by conv => lhs; whnf)) ?_; refine tla ?_; refine nq ?_; refine tc_seq ?_; refine sr ?_; refine tla ?_; refine nq ?_; refine tc_block ?_; refine tc_pre (A' := F * pt b (cl [.pointer (some ⟨d, 0, none⟩), .pointer (some ⟨bl, 0, none⟩), .pointer (some ⟨r, 0, none⟩), .pointer (some ⟨bk, 0, none⟩)] 45) * pt bl (cl (lcs11 d at_ sz) 94) * pt bk (cl (lcs11 r at_ sz) 96) * Dev d s * RDev r s * pt b4 (cl t.cells 50) * Parts (vs.drop 0) ((L.map (·.2)).drop 0) * Sl 2 (.slice a67 L.length c67) L.length (kcl L vs)) (fun _ _ h => by rw [List.drop_zero, List.drop_zero]; exact Dr.sat drqz _ _ h) ?_
          refine tc_loop (fun kk ρ BB => ∃ (i : Nat) (zs : List Value), (i ≤ L.length) ∧ (zs.length = L.length * 2) ∧ (zs.drop (i * 2) = (kcl L vs).drop (i * 2)) ∧ kk = L.length - i ∧ ρ 13 = .int .i64 (i : Nat) ∧ ρ 8 = .slice a67 L.length c67 ∧ ρ 12 = .bool true ∧ Dr BB (F * pt b (cl [.pointer (some ⟨d, 0, none⟩), .pointer (some ⟨bl, 0, none⟩), .pointer (some ⟨r, 0, none⟩), .pointer (some ⟨bk, 0, none⟩)] 45) * pt bl (cl (lcs11 d at_ sz) 94) * pt bk (cl (lcs11 r at_ sz) 96) * Dev d s * RDev r s * pt b4 (cl t.cells 50) * Parts (vs.drop i) ((L.map (·.2)).drop i) * Sl 2 (.slice a67 L.length c67) L.length zs)) (m := L.length - (0)) ?_ ?_
          · exact ⟨0, kcl L vs, by omega, kcl_len hvs, rfl, rfl, rfl, rfl, rfl, drqz⟩
          · intro k ρ B hI
            obtain ⟨i, zs, hp0, hp1, hp2, hkk1, hE13, hE8, hE12, hBA⟩ := hI
            refine tc_pre hBA.sat ?_
            clear hBA
            refine tc_env (d := 13) hE13 ?_; refine tc_env (d := 8) hE8 ?_; refine tc_env (d := 12) hE12 ?_
            clear hE13 hE8 hE12
            refine tc_seq ?_; refine sr ?_; refine tlm ?_; refine tlm ?_; refine tv (o_len Tryz.underlying84 rfl) ?_; refine tv (o_lss rfl rfl) ?_; refine nq ?_; refine tc_cond rfl (fun h => ?_) (fun h => ?_)
            · have hi : i < L.length := by simp at h; omega
              obtain ⟨xb, xc, hv9, hxc⟩ := hps i hi
              have hz1 := zs_at1 hp2 hvs hi hv9
              have hxl := hL3 _ (getD_mem hi)
              refine tc_eq (show _ = F * pt b (cl [.pointer (some ⟨d, 0, none⟩), .pointer (some ⟨bl, 0, none⟩), .pointer (some ⟨r, 0, none⟩), .pointer (some ⟨bk, 0, none⟩)] 45) * pt bl (cl (lcs11 d at_ sz) 94) * pt bk (cl (lcs11 r at_ sz) 96) * Dev d s * RDev r s * pt b4 (cl t.cells 50) * Parts (vs.drop (i + 1)) ((L.map (·.2)).drop (i + 1)) * Sl 1 (.slice xb ((L.getD i (0, [])).2).length xc) ((L.getD i (0, [])).2).length (bys ((L.getD i (0, [])).2)) * Sl 2 (.slice a67 L.length c67) L.length zs by rw [parts_drop hvs hi hv9]; ac_rfl) ?_; refine tc_skip ?_; refine q_then_n ?_; refine tc_seq ?_; refine tc_block ?_; refine tc_seq ?_; refine sr ?_; refine tla ?_; refine nq ?_; refine tc_block ?_; refine tc_loop (fun kk ρ BB => ∃ (j : Nat) (ys : List Nat), (j ≤ ((L.getD i (0, [])).2).length) ∧ (ys.length = ((L.getD i (0, [])).2).length) ∧ kk = ((L.getD i (0, [])).2).length - j ∧ ρ 14 = .int .i64 (j : Nat) ∧ ρ 8 = .slice a67 L.length c67 ∧ ρ 12 = .bool true ∧ ρ 13 = .int .i64 (i : Nat) ∧ BB = F * pt b (cl [.pointer (some ⟨d, 0, none⟩), .pointer (some ⟨bl, 0, none⟩), .pointer (some ⟨r, 0, none⟩), .pointer (some ⟨bk, 0, none⟩)] 45) * pt bl (cl (lcs11 d at_ sz) 94) * pt bk (cl (lcs11 r at_ sz) 96) * Dev d s * RDev r s * pt b4 (cl t.cells 50) * Parts (vs.drop (i + 1)) ((L.map (·.2)).drop (i + 1)) * Sl 1 (.slice xb ((L.getD i (0, [])).2).length xc) ((L.getD i (0, [])).2).length (bys ys) * Sl 2 (.slice a67 L.length c67) L.length zs) (m := ((L.getD i (0, [])).2).length - (0)) ?_ ?_
              · exact ⟨0, ((L.getD i (0, [])).2), by omega, rfl, rfl, rfl, rfl, rfl, rfl, rfl⟩
              · intro k ρ B hI
                obtain ⟨j, ys, hq0, hq1, hkk2, hE14, hE8, hE12, hE13, rfl⟩ := hI
                refine tc_env (d := 14) hE14 ?_; refine tc_env (d := 8) hE8 ?_; refine tc_env (d := 12) hE12 ?_; refine tc_env (d := 13) hE13 ?_
                clear hE14 hE8 hE12 hE13
                refine tc_seq ?_; refine sr ?_; refine tlm ?_; refine tlm ?_; refine tlm ?_; refine tv (o_ixP (a := a67) Tryz.underlying84 sz92 rfl rfl oqz (nn_rs (xs := zs) sq7z (fun _ => by omega))) ?_; refine tv (o_faP (a := a67) (m := 0) (o := 1) Tryz.underlying92 rfl rfl sz22 rfl (nn_rs (xs := zs) sq7z (fun _ => by omega))) ?_; refine tv (o_ldP (a := a67) (xs := zs) p22 rfl sq3z hz1) ?_; refine tv (o_len Tryz.underlying22 rfl) ?_; refine tv (o_lss rfl rfl) ?_; refine nq ?_; refine tc_cond rfl (fun h => ?_) (fun h => ?_)
                · have hj : j < ys.length := by have h9 := of_decide_eq_true h; omega
                  refine tc_skip ?_; refine q_then_n ?_; refine tc_seq ?_; refine tc_block ?_; refine tc_regh (S := F * pt b (cl [.pointer (some ⟨d, 0, none⟩), .pointer (some ⟨bl, 0, none⟩), .pointer (some ⟨r, 0, none⟩), .pointer (some ⟨bk, 0, none⟩)] 45) * pt bl (cl (lcs11 d at_ sz) 94) * pt bk (cl (lcs11 r at_ sz) 96) * Dev d s * RDev r s * pt b4 (cl t.cells 50) * Parts (vs.drop (i + 1)) ((L.map (·.2)).drop (i + 1)) * Sl 2 (.slice a67 L.length c67) L.length zs) mo drqz ?_
                  show TH _ _ _ _ _ 17 #[ff,ff,ff,ff,ff,ff,ff,ff,ff,ff,ff,ff,ff,ff,ff,ff,ff] _ _
                  refine th_take (i := 0) (listed' := #[tt,ff,ff,ff,ff,ff,ff,ff,ff,ff,ff,ff,ff,ff,ff,ff,ff]) rfl kqz kqz kqz rfl rfl (o_move (by conv => lhs; whnf)) ?_; refine th_take (i := 1) (listed' := #[tt,tt,ff,ff,ff,ff,ff,ff,ff,ff,ff,ff,ff,ff,ff,ff,ff]) rfl kqz kqz kqz rfl rfl (o_move (by conv => lhs; whnf)) ?_; refine th_take (i := 2) (listed' := #[tt,tt,tt,ff,ff,ff,ff,ff,ff,ff,ff,ff,ff,ff,ff,ff,ff]) rfl kqz kqz kqz rfl rfl (o_ixP (a := a67) Tryz.underlying84 sz92 rfl rfl oqz (nn_rs (xs := zs) sq7z (fun _ => by omega))) ?_; refine th_take (i := 3) (listed' := #[tt,tt,tt,tt,ff,ff,ff,ff,ff,ff,ff,ff,ff,ff,ff,ff,ff]) rfl kqz kqz kqz rfl rfl (o_faP (a := a67) (m := 0) (o := 1) Tryz.underlying92 rfl rfl sz22 rfl (nn_rs (xs := zs) sq7z (fun _ => by omega))) ?_; refine th_take (i := 4) (listed' := #[tt,tt,tt,tt,tt,ff,ff,ff,ff,ff,ff,ff,ff,ff,ff,ff,ff]) rfl kqz kqz kqz rfl rfl (o_ldP (a := a67) (xs := zs) p22 rfl sq3z hz1) ?_; refine th_take (i := 5) (listed' := #[tt,tt,tt,tt,tt,tt,ff,ff,ff,ff,ff,ff,ff,ff,ff,ff,ff]) rfl kqz kqz kqz rfl rfl (o_move (by conv => lhs; whnf)) ?_
                  refine th_take (i := 6) (listed' := #[tt,tt,tt,tt,tt,tt,tt,ff,ff,ff,ff,ff,ff,ff,ff,ff,ff]) rfl kqz kqz kqz rfl rfl (o_move (by conv => lhs; whnf)) ?_; refine th_take (i := 7) (listed' := #[tt,tt,tt,tt,tt,tt,tt,tt,ff,ff,ff,ff,ff,ff,ff,ff,ff]) rfl kqz kqz kqz rfl rfl (o_move (by conv => lhs; whnf)) ?_; refine th_take (i := 8) (listed' := #[tt,tt,tt,tt,tt,tt,tt,tt,tt,ff,ff,ff,ff,ff,ff,ff,ff]) rfl kqz kqz kqz rfl rfl (o_ixP (a := a67) Tryz.underlying84 sz92 rfl rfl oqz (nn_rs (xs := zs) sq7z (fun _ => by omega))) ?_; refine th_take (i := 9) (listed' := #[tt,tt,tt,tt,tt,tt,tt,tt,tt,tt,ff,ff,ff,ff,ff,ff,ff]) rfl kqz kqz kqz rfl rfl (o_faP (a := a67) (m := 0) (o := 1) Tryz.underlying92 rfl rfl sz22 rfl (nn_rs (xs := zs) sq7z (fun _ => by omega))) ?_; refine th_take (i := 10) (listed' := #[tt,tt,tt,tt,tt,tt,tt,tt,tt,tt,tt,ff,ff,ff,ff,ff,ff]) rfl kqz kqz kqz rfl rfl (o_ldP (a := a67) (xs := zs) p22 rfl sq3z hz1) ?_; refine th_take (i := 11) (listed' := #[tt,tt,tt,tt,tt,tt,tt,tt,tt,tt,tt,tt,ff,ff,ff,ff,ff]) rfl kqz kqz kqz rfl rfl (o_move (by conv => lhs; whnf)) ?_
                  refine th_one (i := 12) kqz ?_; refine oh_v (i := 12) (listed' := #[tt,tt,tt,tt,tt,tt,tt,tt,tt,tt,tt,tt,tt,ff,ff,ff,ff]) rfl rfl rfl (o_ixP1 (a := xb) Tryz.underlying22 sz5 rfl rfl oqz (nn_rs (xs := bys ys) sq3z (by rw [bys_length]; omega))) ?_; refine th_one (i := 13) kqz ?_; refine oh_v (i := 13) (listed' := #[tt,tt,tt,tt,tt,tt,tt,tt,tt,tt,tt,tt,tt,tt,ff,ff,ff]) rfl rfl rfl (o_ldP (a := xb) (xs := bys ys) p5 rfl sq3z (bys_at hj)) ?_; refine th_one (i := 14) kqz ?_; refine oh_v (i := 14) (listed' := #[tt,tt,tt,tt,tt,tt,tt,tt,tt,tt,tt,tt,tt,tt,tt,ff,ff]) rfl rfl rfl (o_xor rfl rfl) ?_; refine th_env (d := 116) (v := .int .u8 ((xf11 ys[j] : Nat) : Int)) (xf11_val _) ?_; refine th_one (i := 15) kqz ?_; refine oh_v (i := 15) (listed' := #[tt,tt,tt,tt,tt,tt,tt,tt,tt,tt,tt,tt,tt,tt,tt,tt,ff]) rfl rfl rfl (o_ixP1 (a := xb) Tryz.underlying22 sz5 rfl rfl oqz (nn_rs (xs := bys ys) sq3z (by rw [bys_length]; omega))) ?_; refine th_one (i := 16) kqz ?_; refine oh_u (i := 16) (listed' := #[tt,tt,tt,tt,tt,tt,tt,tt,tt,tt,tt,tt,tt,tt,tt,tt,tt]) rfl rfl rfl (o_stP (ys := bys (ys.set j (xf11 ys[j]))) sz5 rfl rfl rfl ctqz oqz (bys_set _ _ _)) drqz ?_
                  refine th_done kqz ?_; refine q_block_n (q_then_n ?_); refine tc_reg ?_; refine tlm ?_; refine tv adqz ?_; refine tla ?_; refine nq ?_; exact ⟨_, by omega, j + 1, ys.set j (xf11 ys[j]), by omega, by rw [List.length_set]; exact hq1, rfl, rfl, rfl, rfl, rfl, rfl⟩
                · try simp only [lv1, lv2, lv3, lv4, lv5, lv6, Bool.not_true, Bool.not_false] at h
                  refine tc_exit ?_; refine q_then_e (q_then_e (q_block_x (q_then_n ?_))); refine tc_reg ?_; refine tlm ?_; refine tlm ?_; refine tv (o_bS (l := [_, _]) (pv_cons (by conv => lhs; whnf) pv_nil) Tryz.underlying92 z92 (pl92 Tryz.underlying92) rfl) ?_; refine tv (o_ixP (a := a67) Tryz.underlying84 sz92 rfl rfl oqz (nn_rs (xs := zs) sq7z (fun _ => by omega))) ?_; refine tl_u rfl (o_stPN (vs := [.int .i64 64, .slice none 0 0]) (ys := ((zs.set (i * 2) (.int .i64 64)).set (i * 2 + 1) (.slice none 0 0))) sz92 rfl rfl rfl rfl (by decide) ctqz oqz rfl) ?_; refine tl_nil ?_; refine q_block_n (q_then_n ?_); refine tc_reg ?_; refine tlm ?_; refine tv adqz ?_; refine tla ?_; refine nq ?_; exact ⟨_, by omega, i + 1, ((zs.set (i * 2) (.int .i64 64)).set (i * 2 + 1) (.slice none 0 0)), by omega, by rw [List.length_set, List.length_set]; exact hp1, zs_next hp2, rfl, rfl, rfl, rfl, drqz⟩
            · try simp only [lv1, lv2, lv3, lv4, lv5, lv6, Bool.not_true, Bool.not_false] at h
              refine tc_exit ?_; refine q_then_e (q_then_e (q_block_x (q_then_n ?_))); refine sr ?_; refine tlm ?_; refine tla ?_; refine nq ?_; refine tc_ret ?_; refine q_block_r (q_then_r ?_); refine ⟨.bool true, _, res1 rfl rfl, ?_, s, rfl, rfl, hrk, rfl⟩; exact Dr.sat drqz
        · exfalso; simp at h
      · try simp only [lv1, lv2, lv3, lv4, lv5, lv6, Bool.not_true, Bool.not_false] at h
        refine sr ?_; refine tv (o_eqi rfl rfl) ?_; refine tla ?_; refine nq ?_; refine tc_cond rfl (fun h => ?_) (fun h => ?_)
        · try simp only [lv1, lv2, lv3, lv4, lv5, lv6, Bool.not_true, Bool.not_false] at h
          refine sr ?_; refine tlm ?_; refine tv (o_nilCheck rfl) ?_; refine tv (o_fieldAddr (o := 1) Tryz.underlying45 rfl rfl sz37 rfl) ?_; refine tv (by first | exact o_load p37 rfl hsqz rfl | exact o_loadC p37 rfl (by assumption)) ?_; refine tl_c rfl (o_call bd26 rfl (Rg.Rollback_c (s := s))) ?_; rintro _ _ ⟨e130, n130, s130, hs130, rfl, rfl⟩; refine tlm ?_; refine tv (o_extract rfl rfl) ?_; refine tv (o_extract rfl rfl) ?_; refine tla ?_; refine tla ?_; refine nq ?_; refine sr ?_; refine tlm ?_; refine tv (o_nilCheck rfl) ?_; refine tv (o_fieldAddr (o := 3) Tryz.underlying45 rfl rfl sz40 rfl) ?_; refine tv (by first | exact o_load p40 rfl hsqz rfl | exact o_loadC p40 rfl (by assumption)) ?_; refine tl_c rfl (o_call bd36 rfl (rRollback_c (s := s))) ?_; rintro _ _ ⟨e138, k138, s138, hs138, rfl, rfl⟩
          obtain ⟨hq9, rfl⟩ := pair_eq hs130 hs138
          simp only [Prod.mk.injEq] at hq9
          obtain ⟨rfl, rfl⟩ := hq9
          have hgr := gd_roll (at_ := at_) (sz := sz) hg hlw
          rw [hs130] at hgr
          refine tlm ?_; refine tv (o_extract rfl rfl) ?_; refine tv (o_extract rfl rfl) ?_; refine tla ?_; refine tla ?_; refine nq ?_; refine sr ?_; refine tlm ?_; refine tlm ?_; refine tv (o_eqi rfl rfl) ?_; refine tl_env (d := 143) (v := .bool true) (by show Value.bool (decide (_ = _)) = _; simp) ?_; refine tlm ?_; refine tl_bool (d := 144) rfl (fun h => ?_) (fun h => ?_)
          · try simp only [lv1, lv2, lv3, lv4, lv5, lv6, Bool.not_true, Bool.not_false] at h
            refine tlm ?_; refine tlm ?_; refine tv (o_eqi rfl rfl) ?_; refine tl_env (d := 147) (v := .bool true) (by show Value.bool (decide (_ = _)) = _; simp) ?_; refine tv (o_pick_t rfl (by conv => lhs; whnf)) ?_; refine tla ?_; refine nq ?_; refine tc_ret ?_; refine q_block_r (q_then_r ?_); refine ⟨.bool true, _, res1 rfl rfl, ?_, s130, rfl, hgr.len, (hgr.le oqz).room, rfl⟩; exact Dr.sat drqz
          · exfalso; simp at h
        · try simp only [lv1, lv2, lv3, lv4, lv5, lv6, Bool.not_true, Bool.not_false] at h
          refine sr ?_; refine tv (o_eqi rfl rfl) ?_; refine tla ?_; refine nq ?_; refine tc_cond rfl (fun h => ?_) (fun h => ?_)
          · try simp only [lv1, lv2, lv3, lv4, lv5, lv6, Bool.not_true, Bool.not_false] at h
            refine tc_seq ?_; refine tc_regh (S := F * pt b (cl [.pointer (some ⟨d, 0, none⟩), .pointer (some ⟨bl, 0, none⟩), .pointer (some ⟨r, 0, none⟩), .pointer (some ⟨bk, 0, none⟩)] 45) * pt bl (cl (lcs11 d at_ sz) 94) * pt bk (cl (lcs11 r at_ sz) 96) * pt b4 (cl t.cells 50)) mo drqz ?_
            show TH _ _ _ _ _ 21 #[ff,ff,ff,ff,ff,ff,ff,ff,ff,ff,ff,ff,ff,ff,ff,ff,ff,ff,ff,ff,ff] _ _
            refine th_take (i := 0) (listed' := #[tt,ff,ff,ff,ff,ff,ff,ff,ff,ff,ff,ff,ff,ff,ff,ff,ff,ff,ff,ff,ff]) rfl kqz kqz kqz rfl rfl (o_move (by conv => lhs; whnf)) ?_; refine th_take (i := 1) (listed' := #[tt,tt,ff,ff,ff,ff,ff,ff,ff,ff,ff,ff,ff,ff,ff,ff,ff,ff,ff,ff,ff]) rfl kqz kqz kqz rfl rfl (o_nilCheck rfl) ?_; refine th_take (i := 2) (listed' := #[tt,tt,tt,ff,ff,ff,ff,ff,ff,ff,ff,ff,ff,ff,ff,ff,ff,ff,ff,ff,ff]) rfl kqz kqz kqz rfl rfl (o_fieldAddr (o := 0) Tryz.underlying45 rfl rfl sz28 rfl) ?_; refine th_take (i := 3) (listed' := #[tt,tt,tt,tt,ff,ff,ff,ff,ff,ff,ff,ff,ff,ff,ff,ff,ff,ff,ff,ff,ff]) rfl kqz kqz kqz rfl rfl (by first | exact o_load p28 rfl hsqz rfl | exact o_loadC p28 rfl (by assumption)) ?_; refine th_take (i := 4) (listed' := #[tt,tt,tt,tt,tt,ff,ff,ff,ff,ff,ff,ff,ff,ff,ff,ff,ff,ff,ff,ff,ff]) rfl kqz kqz kqz rfl rfl (o_fieldAddr (o := 1) Tryz.underlying50 rfl rfl sz3 rfl) ?_; refine th_take (i := 5) (listed' := #[tt,tt,tt,tt,tt,tt,ff,ff,ff,ff,ff,ff,ff,ff,ff,ff,ff,ff,ff,ff,ff]) rfl kqz kqz kqz rfl rfl (by first | exact o_load p3 rfl hsqz rfl | exact o_loadC p3 rfl (by assumption)) ?_
            refine th_take (i := 6) (listed' := #[tt,tt,tt,tt,tt,tt,tt,ff,ff,ff,ff,ff,ff,ff,ff,ff,ff,ff,ff,ff,ff]) rfl kqz kqz kqz rfl rfl (o_fieldAddr (o := 4) Tryz.underlying50 rfl rfl sz22 rfl) ?_; refine th_take (i := 7) (listed' := #[tt,tt,tt,tt,tt,tt,tt,tt,ff,ff,ff,ff,ff,ff,ff,ff,ff,ff,ff,ff,ff]) rfl kqz kqz kqz rfl rfl (by first | exact o_load p22 rfl hsqz rfl | exact o_loadC p22 rfl (by assumption)) ?_; refine th_take (i := 10) (listed' := #[tt,tt,tt,tt,tt,tt,tt,tt,ff,ff,tt,ff,ff,ff,ff,ff,ff,ff,ff,ff,ff]) rfl kqz kqz kqz rfl rfl (o_move (by conv => lhs; whnf)) ?_; refine th_take (i := 11) (listed' := #[tt,tt,tt,tt,tt,tt,tt,tt,ff,ff,tt,tt,ff,ff,ff,ff,ff,ff,ff,ff,ff]) rfl kqz kqz kqz rfl rfl (o_nilCheck rfl) ?_; refine th_take (i := 12) (listed' := #[tt,tt,tt,tt,tt,tt,tt,tt,ff,ff,tt,tt,tt,ff,ff,ff,ff,ff,ff,ff,ff]) rfl kqz kqz kqz rfl rfl (o_fieldAddr (o := 2) Tryz.underlying45 rfl rfl sz33 rfl) ?_; refine th_take (i := 13) (listed' := #[tt,tt,tt,tt,tt,tt,tt,tt,ff,ff,tt,tt,tt,tt,ff,ff,ff,ff,ff,ff,ff]) rfl kqz kqz kqz rfl rfl (by first | exact o_load p33 rfl hsqz rfl | exact o_loadC p33 rfl (by assumption)) ?_
            refine th_take (i := 14) (listed' := #[tt,tt,tt,tt,tt,tt,tt,tt,ff,ff,tt,tt,tt,tt,tt,ff,ff,ff,ff,ff,ff]) rfl kqz kqz kqz rfl rfl (o_fieldAddr (o := 1) Tryz.underlying50 rfl rfl sz3 rfl) ?_; refine th_take (i := 15) (listed' := #[tt,tt,tt,tt,tt,tt,tt,tt,ff,ff,tt,tt,tt,tt,tt,tt,ff,ff,ff,ff,ff]) rfl kqz kqz kqz rfl rfl (by first | exact o_load p3 rfl hsqz rfl | exact o_loadC p3 rfl (by assumption)) ?_; refine th_take (i := 16) (listed' := #[tt,tt,tt,tt,tt,tt,tt,tt,ff,ff,tt,tt,tt,tt,tt,tt,tt,ff,ff,ff,ff]) rfl kqz kqz kqz rfl rfl (o_fieldAddr (o := 4) Tryz.underlying50 rfl rfl sz22 rfl) ?_; refine th_take (i := 17) (listed' := #[tt,tt,tt,tt,tt,tt,tt,tt,ff,ff,tt,tt,tt,tt,tt,tt,tt,tt,ff,ff,ff]) rfl kqz kqz kqz rfl rfl (by first | exact o_load p22 rfl hsqz rfl | exact o_loadC p22 rfl (by assumption)) ?_; refine th_one (i := 8) kqz ?_; refine oh_c (i := 8) (listed' := #[tt,tt,tt,tt,tt,tt,tt,tt,tt,ff,tt,tt,tt,tt,tt,tt,tt,tt,ff,ff,ff]) rfl rfl rfl (o_call bd6 rfl (CopyBytes_c (xs := t.d) (hm := rfl))) ?_; rintro _ _ ⟨a159, c159, rfl, hc159, rfl⟩; refine ⟨by repeat (first | with_reducible exact dr_refl | apply dr_keep | apply dr_drop), ?_⟩
            refine th_one (i := 9) kqz ?_; refine oh_c (i := 9) (listed' := #[tt,tt,tt,tt,tt,tt,tt,tt,tt,tt,tt,tt,tt,tt,tt,tt,tt,tt,ff,ff,ff]) rfl rfl rfl (o_call bd24 rfl (Store_c (s := s) (p := t.q) (xs := t.d) (hr := (by repeat (first | with_reducible exact rs_sl | with_reducible exact rs_pt0 | apply Rs.left))) (hm := rfl) (hroom := fun _ => hrd))) ?_; rintro _ _ ⟨e160, s160, hs160, rfl, rfl⟩; refine ⟨by repeat (first | with_reducible exact dr_refl | apply dr_keep | apply dr_drop), ?_⟩; refine th_one (i := 18) kqz ?_; refine oh_c (i := 18) (listed' := #[tt,tt,tt,tt,tt,tt,tt,tt,tt,tt,tt,tt,tt,tt,tt,tt,tt,tt,tt,ff,ff]) rfl rfl rfl (o_call bd37 rfl (rStore_c (s := s) (p := t.q) (xs := t.d) (hm := rfl) (hroom := fun _ => hrd))) ?_; rintro _ _ ⟨e169, s169, hs169, rfl, rfl⟩; refine ⟨by repeat (first | with_reducible exact dr_refl | apply dr_keep | apply dr_drop), ?_⟩
            obtain ⟨rfl, rfl⟩ : e160 = e169 ∧ s160 = s169 := by rw [hs160] at hs169; simpa using hs169
            refine th_take (i := 19) (listed' := #[tt,tt,tt,tt,tt,tt,tt,tt,tt,tt,tt,tt,tt,tt,tt,tt,tt,tt,tt,tt,ff]) rfl kqz kqz kqz rfl rfl (o_eqi rfl rfl) ?_; refine th_env (d := 170) (v := .bool true) (by show Value.bool (decide (_ = _)) = _; simp) ?_; refine th_take (i := 20) (listed' := #[tt,tt,tt,tt,tt,tt,tt,tt,tt,tt,tt,tt,tt,tt,tt,tt,tt,tt,tt,tt,tt]) rfl kqz kqz kqz rfl rfl (o_assign (by conv => lhs; whnf)) ?_; refine th_done kqz ?_; refine q_then_n ?_; refine tc_ret ?_; refine q_block_r (q_then_r ?_); refine ⟨.bool true, _, res1 rfl rfl, ?_, s160, rfl, by have h9 := sto_len t.q t.d s; rw [hs160] at h9; exact h9, sto_room hs160 hwf hdb hrdk, rfl⟩; exact Dr.sat drqz
          · try simp only [lv1, lv2, lv3, lv4, lv5, lv6, Bool.not_true, Bool.not_false] at h
            refine sr ?_; refine tv (o_eqi rfl rfl) ?_; refine tla ?_; refine nq ?_; refine tc_cond rfl (fun h => ?_) (fun h => ?_)
            · try simp only [lv1, lv2, lv3, lv4, lv5, lv6, Bool.not_true, Bool.not_false] at h
              refine tc_seq ?_; refine tc_regh (S := F * pt b (cl [.pointer (some ⟨d, 0, none⟩), .pointer (some ⟨bl, 0, none⟩), .pointer (some ⟨r, 0, none⟩), .pointer (some ⟨bk, 0, none⟩)] 45) * pt bl (cl (lcs11 d at_ sz) 94) * pt bk (cl (lcs11 r at_ sz) 96) * pt b4 (cl t.cells 50)) mo drqz ?_
              show TH _ _ _ _ _ 16 #[ff,ff,ff,ff,ff,ff,ff,ff,ff,ff,ff,ff,ff,ff,ff,ff] _ _
              refine th_take (i := 0) (listed' := #[tt,ff,ff,ff,ff,ff,ff,ff,ff,ff,ff,ff,ff,ff,ff,ff]) rfl kqz kqz kqz rfl rfl (o_move (by conv => lhs; whnf)) ?_; refine th_take (i := 1) (listed' := #[tt,tt,ff,ff,ff,ff,ff,ff,ff,ff,ff,ff,ff,ff,ff,ff]) rfl kqz kqz kqz rfl rfl (o_nilCheck rfl) ?_; refine th_take (i := 2) (listed' := #[tt,tt,tt,ff,ff,ff,ff,ff,ff,ff,ff,ff,ff,ff,ff,ff]) rfl kqz kqz kqz rfl rfl (o_fieldAddr (o := 0) Tryz.underlying45 rfl rfl sz28 rfl) ?_; refine th_take (i := 3) (listed' := #[tt,tt,tt,tt,ff,ff,ff,ff,ff,ff,ff,ff,ff,ff,ff,ff]) rfl kqz kqz kqz rfl rfl (by first | exact o_load p28 rfl hsqz rfl | exact o_loadC p28 rfl (by assumption)) ?_; refine th_take (i := 4) (listed' := #[tt,tt,tt,tt,tt,ff,ff,ff,ff,ff,ff,ff,ff,ff,ff,ff]) rfl kqz kqz kqz rfl rfl (o_fieldAddr (o := 1) Tryz.underlying50 rfl rfl sz3 rfl) ?_; refine th_take (i := 5) (listed' := #[tt,tt,tt,tt,tt,tt,ff,ff,ff,ff,ff,ff,ff,ff,ff,ff]) rfl kqz kqz kqz rfl rfl (by first | exact o_load p3 rfl hsqz rfl | exact o_loadC p3 rfl (by assumption)) ?_
              refine th_take (i := 7) (listed' := #[tt,tt,tt,tt,tt,tt,ff,tt,ff,ff,ff,ff,ff,ff,ff,ff]) rfl kqz kqz kqz rfl rfl (o_move (by conv => lhs; whnf)) ?_; refine th_take (i := 8) (listed' := #[tt,tt,tt,tt,tt,tt,ff,tt,tt,ff,ff,ff,ff,ff,ff,ff]) rfl kqz kqz kqz rfl rfl (o_nilCheck rfl) ?_; refine th_take (i := 9) (listed' := #[tt,tt,tt,tt,tt,tt,ff,tt,tt,tt,ff,ff,ff,ff,ff,ff]) rfl kqz kqz kqz rfl rfl (o_fieldAddr (o := 2) Tryz.underlying45 rfl rfl sz33 rfl) ?_; refine th_take (i := 10) (listed' := #[tt,tt,tt,tt,tt,tt,ff,tt,tt,tt,tt,ff,ff,ff,ff,ff]) rfl kqz kqz kqz rfl rfl (by first | exact o_load p33 rfl hsqz rfl | exact o_loadC p33 rfl (by assumption)) ?_; refine th_take (i := 11) (listed' := #[tt,tt,tt,tt,tt,tt,ff,tt,tt,tt,tt,tt,ff,ff,ff,ff]) rfl kqz kqz kqz rfl rfl (o_fieldAddr (o := 1) Tryz.underlying50 rfl rfl sz3 rfl) ?_; refine th_take (i := 12) (listed' := #[tt,tt,tt,tt,tt,tt,ff,tt,tt,tt,tt,tt,tt,ff,ff,ff]) rfl kqz kqz kqz rfl rfl (by first | exact o_load p3 rfl hsqz rfl | exact o_loadC p3 rfl (by assumption)) ?_
              refine th_one (i := 6) kqz ?_; refine oh_c (i := 6) (listed' := #[tt,tt,tt,tt,tt,tt,tt,tt,tt,tt,tt,tt,tt,ff,ff,ff]) rfl rfl rfl (o_call bd38 rfl (Flush_c (s := s) (p := t.q))) ?_; rintro _ _ ⟨e179, s179, hs179, rfl, rfl⟩; refine ⟨by repeat (first | with_reducible exact dr_refl | apply dr_keep | apply dr_drop), ?_⟩; refine th_one (i := 13) kqz ?_; refine oh_c (i := 13) (listed' := #[tt,tt,tt,tt,tt,tt,tt,tt,tt,tt,tt,tt,tt,tt,ff,ff]) rfl rfl rfl (o_call bd39 rfl (rFlush_c (s := s) (p := t.q))) ?_; rintro _ _ ⟨e186, s186, hs186, rfl, rfl⟩; refine ⟨by repeat (first | with_reducible exact dr_refl | apply dr_keep | apply dr_drop), ?_⟩
              obtain ⟨rfl, rfl⟩ : e179 = e186 ∧ s179 = s186 := by rw [hs179] at hs186; simpa using hs186
              refine th_take (i := 14) (listed' := #[tt,tt,tt,tt,tt,tt,tt,tt,tt,tt,tt,tt,tt,tt,tt,ff]) rfl kqz kqz kqz rfl rfl (o_eqi rfl rfl) ?_; refine th_env (d := 187) (v := .bool true) (by show Value.bool (decide (_ = _)) = _; simp) ?_; refine th_take (i := 15) (listed' := #[tt,tt,tt,tt,tt,tt,tt,tt,tt,tt,tt,tt,tt,tt,tt,tt]) rfl kqz kqz kqz rfl rfl (o_assign (by conv => lhs; whnf)) ?_; refine th_done kqz ?_; refine q_then_n ?_; refine tc_ret ?_; refine q_block_r (q_then_r ?_); refine ⟨.bool true, _, res1 rfl rfl, ?_, s179, rfl, by have h9 := fl1_len t.q s; rw [hs179] at h9; exact h9, fl1_room hs179 hwf hrk, rfl⟩; exact Dr.sat drqz
            · try simp only [lv1, lv2, lv3, lv4, lv5, lv6, Bool.not_true, Bool.not_false] at h
              refine sr ?_; refine tv (o_eqi rfl rfl) ?_; refine tla ?_; refine nq ?_; refine tc_cond rfl (fun h => ?_) (fun h => ?_)
              · try simp only [lv1, lv2, lv3, lv4, lv5, lv6, Bool.not_true, Bool.not_false] at h
                refine tc_seq ?_; refine tc_regh (S := F * pt b (cl [.pointer (some ⟨d, 0, none⟩), .pointer (some ⟨bl, 0, none⟩), .pointer (some ⟨r, 0, none⟩), .pointer (some ⟨bk, 0, none⟩)] 45) * pt bl (cl (lcs11 d at_ sz) 94) * pt bk (cl (lcs11 r at_ sz) 96) * pt b4 (cl t.cells 50)) mo drqz ?_
                show TH _ _ _ _ _ 12 #[ff,ff,ff,ff,ff,ff,ff,ff,ff,ff,ff,ff] _ _
                refine th_take (i := 0) (listed' := #[tt,ff,ff,ff,ff,ff,ff,ff,ff,ff,ff,ff]) rfl kqz kqz kqz rfl rfl (o_move (by conv => lhs; whnf)) ?_; refine th_take (i := 1) (listed' := #[tt,tt,ff,ff,ff,ff,ff,ff,ff,ff,ff,ff]) rfl kqz kqz kqz rfl rfl (o_nilCheck rfl) ?_; refine th_take (i := 2) (listed' := #[tt,tt,tt,ff,ff,ff,ff,ff,ff,ff,ff,ff]) rfl kqz kqz kqz rfl rfl (o_fieldAddr (o := 0) Tryz.underlying45 rfl rfl sz28 rfl) ?_; refine th_take (i := 3) (listed' := #[tt,tt,tt,tt,ff,ff,ff,ff,ff,ff,ff,ff]) rfl kqz kqz kqz rfl rfl (by first | exact o_load p28 rfl hsqz rfl | exact o_loadC p28 rfl (by assumption)) ?_; refine th_take (i := 5) (listed' := #[tt,tt,tt,tt,ff,tt,ff,ff,ff,ff,ff,ff]) rfl kqz kqz kqz rfl rfl (o_move (by conv => lhs; whnf)) ?_; refine th_take (i := 6) (listed' := #[tt,tt,tt,tt,ff,tt,tt,ff,ff,ff,ff,ff]) rfl kqz kqz kqz rfl rfl (o_nilCheck rfl) ?_; refine th_take (i := 7) (listed' := #[tt,tt,tt,tt,ff,tt,tt,tt,ff,ff,ff,ff]) rfl kqz kqz kqz rfl rfl (o_fieldAddr (o := 2) Tryz.underlying45 rfl rfl sz33 rfl) ?_; refine th_take (i := 8) (listed' := #[tt,tt,tt,tt,ff,tt,tt,tt,tt,ff,ff,ff]) rfl kqz kqz kqz rfl rfl (by first | exact o_load p33 rfl hsqz rfl | exact o_loadC p33 rfl (by assumption)) ?_
                refine th_one (i := 4) kqz ?_; refine oh_c (i := 4) (listed' := #[tt,tt,tt,tt,tt,tt,tt,tt,tt,ff,ff,ff]) rfl rfl rfl (o_call bd40 rfl (Fence_c (s := s))) ?_; rintro _ _ ⟨e194, s194, hs194, rfl, rfl⟩; refine ⟨by repeat (first | with_reducible exact dr_refl | apply dr_keep | apply dr_drop), ?_⟩; refine th_one (i := 9) kqz ?_; refine oh_c (i := 9) (listed' := #[tt,tt,tt,tt,tt,tt,tt,tt,tt,tt,ff,ff]) rfl rfl rfl (o_call bd41 rfl (rFence_c (s := s))) ?_; rintro _ _ ⟨e199, s199, hs199, rfl, rfl⟩; refine ⟨by repeat (first | with_reducible exact dr_refl | apply dr_keep | apply dr_drop), ?_⟩
                obtain ⟨rfl, rfl⟩ : e194 = e199 ∧ s194 = s199 := by rw [hs194] at hs199; simpa using hs199
                refine th_take (i := 10) (listed' := #[tt,tt,tt,tt,tt,tt,tt,tt,tt,tt,tt,ff]) rfl kqz kqz kqz rfl rfl (o_eqi rfl rfl) ?_; refine th_env (d := 200) (v := .bool true) (by show Value.bool (decide (_ = _)) = _; simp) ?_; refine th_take (i := 11) (listed' := #[tt,tt,tt,tt,tt,tt,tt,tt,tt,tt,tt,tt]) rfl kqz kqz kqz rfl rfl (o_assign (by conv => lhs; whnf)) ?_; refine th_done kqz ?_; refine q_then_n ?_; refine tc_ret ?_; refine q_block_r (q_then_r ?_); refine ⟨.bool true, _, res1 rfl rfl, ?_, s194, rfl, by have h9 := fe_len s; rw [hs194] at h9; exact h9, fe_room hs194 hwf hrk, rfl⟩; exact Dr.sat drqz
              · try simp only [lv1, lv2, lv3, lv4, lv5, lv6, Bool.not_true, Bool.not_false] at h
                refine sr ?_; refine tv (o_eqi rfl rfl) ?_; refine tla ?_; refine nq ?_; refine tc_cond rfl (fun h => ?_) (fun h => ?_)
                · try simp only [lv1, lv2, lv3, lv4, lv5, lv6, Bool.not_true, Bool.not_false] at h
                  refine tc_seq ?_; refine tc_regh (S := F * pt b (cl [.pointer (some ⟨d, 0, none⟩), .pointer (some ⟨bl, 0, none⟩), .pointer (some ⟨r, 0, none⟩), .pointer (some ⟨bk, 0, none⟩)] 45) * pt bl (cl (lcs11 d at_ sz) 94) * pt bk (cl (lcs11 r at_ sz) 96) * pt b4 (cl t.cells 50)) mo drqz ?_
                  show TH _ _ _ _ _ 17 #[ff,ff,ff,ff,ff,ff,ff,ff,ff,ff,ff,ff,ff,ff,ff,ff,ff] _ _
                  refine th_take (i := 0) (listed' := #[tt,ff,ff,ff,ff,ff,ff,ff,ff,ff,ff,ff,ff,ff,ff,ff,ff]) rfl kqz kqz kqz rfl rfl (o_move (by conv => lhs; whnf)) ?_; refine th_take (i := 1) (listed' := #[tt,tt,ff,ff,ff,ff,ff,ff,ff,ff,ff,ff,ff,ff,ff,ff,ff]) rfl kqz kqz kqz rfl rfl (o_nilCheck rfl) ?_; refine th_take (i := 2) (listed' := #[tt,tt,tt,ff,ff,ff,ff,ff,ff,ff,ff,ff,ff,ff,ff,ff,ff]) rfl kqz kqz kqz rfl rfl (o_fieldAddr (o := 0) Tryz.underlying45 rfl rfl sz28 rfl) ?_; refine th_take (i := 3) (listed' := #[tt,tt,tt,tt,ff,ff,ff,ff,ff,ff,ff,ff,ff,ff,ff,ff,ff]) rfl kqz kqz kqz rfl rfl (by first | exact o_load p28 rfl hsqz rfl | exact o_loadC p28 rfl (by assumption)) ?_; refine th_take (i := 4) (listed' := #[tt,tt,tt,tt,tt,ff,ff,ff,ff,ff,ff,ff,ff,ff,ff,ff,ff]) rfl kqz kqz kqz rfl rfl (o_fieldAddr (o := 5) Tryz.underlying50 rfl rfl sz48 rfl) ?_; refine th_take (i := 5) (listed' := #[tt,tt,tt,tt,tt,tt,ff,ff,ff,ff,ff,ff,ff,ff,ff,ff,ff]) rfl kqz kqz kqz rfl rfl (by first | exact o_load p48 rfl hsqz rfl | exact o_loadC p48 rfl (by assumption)) ?_
                  refine th_take (i := 8) (listed' := #[tt,tt,tt,tt,tt,tt,ff,ff,tt,ff,ff,ff,ff,ff,ff,ff,ff]) rfl kqz kqz kqz rfl rfl (o_move (by conv => lhs; whnf)) ?_; refine th_take (i := 9) (listed' := #[tt,tt,tt,tt,tt,tt,ff,ff,tt,tt,ff,ff,ff,ff,ff,ff,ff]) rfl kqz kqz kqz rfl rfl (o_nilCheck rfl) ?_; refine th_take (i := 10) (listed' := #[tt,tt,tt,tt,tt,tt,ff,ff,tt,tt,tt,ff,ff,ff,ff,ff,ff]) rfl kqz kqz kqz rfl rfl (o_fieldAddr (o := 2) Tryz.underlying45 rfl rfl sz33 rfl) ?_; refine th_take (i := 11) (listed' := #[tt,tt,tt,tt,tt,tt,ff,ff,tt,tt,tt,tt,ff,ff,ff,ff,ff]) rfl kqz kqz kqz rfl rfl (by first | exact o_load p33 rfl hsqz rfl | exact o_loadC p33 rfl (by assumption)) ?_; refine th_take (i := 12) (listed' := #[tt,tt,tt,tt,tt,tt,ff,ff,tt,tt,tt,tt,tt,ff,ff,ff,ff]) rfl kqz kqz kqz rfl rfl (o_fieldAddr (o := 5) Tryz.underlying50 rfl rfl sz48 rfl) ?_; refine th_take (i := 13) (listed' := #[tt,tt,tt,tt,tt,tt,ff,ff,tt,tt,tt,tt,tt,tt,ff,ff,ff]) rfl kqz kqz kqz rfl rfl (by first | exact o_load p48 rfl hsqz rfl | exact o_loadC p48 rfl (by assumption)) ?_
                  refine th_one (i := 6) kqz ?_; refine oh_c (i := 6) (listed' := #[tt,tt,tt,tt,tt,tt,tt,ff,tt,tt,tt,tt,tt,tt,ff,ff,ff]) rfl rfl rfl (o_call bd43 rfl (CopyInts_c (xs := t.kp) (hm := rfl))) ?_; rintro _ _ ⟨a209, c209, rfl, hc209, rfl⟩; refine ⟨by repeat (first | with_reducible exact dr_refl | apply dr_keep | apply dr_drop), ?_⟩; refine th_one (i := 7) kqz ?_; refine oh_c (i := 7) (listed' := #[tt,tt,tt,tt,tt,tt,tt,tt,tt,tt,tt,tt,tt,tt,ff,ff,ff]) rfl rfl rfl (o_call bd42 rfl (Crash_c (s := s) (keep := t.kp) (hr := (by repeat (first | with_reducible exact rs_sl | with_reducible exact rs_pt0 | apply Rs.left))) (hm := rfl))) ?_; rintro _ _ ⟨e210, s210, hs210, rfl, rfl⟩; refine ⟨by repeat (first | with_reducible exact dr_refl | apply dr_keep | apply dr_drop), ?_⟩; refine th_one (i := 14) kqz ?_; refine oh_c (i := 14) (listed' := #[tt,tt,tt,tt,tt,tt,tt,tt,tt,tt,tt,tt,tt,tt,tt,ff,ff]) rfl rfl rfl (o_call bd44 rfl (rCrash_c (s := s) (keep := t.kp) (hm := rfl))) ?_; rintro _ _ ⟨e217, s217, hs217, rfl, rfl⟩; refine ⟨by repeat (first | with_reducible exact dr_refl | apply dr_keep | apply dr_drop), ?_⟩
                  obtain ⟨rfl, rfl⟩ : e210 = e217 ∧ s210 = s217 := by rw [hs210] at hs217; simpa using hs217
                  refine th_take (i := 15) (listed' := #[tt,tt,tt,tt,tt,tt,tt,tt,tt,tt,tt,tt,tt,tt,tt,tt,ff]) rfl kqz kqz kqz rfl rfl (o_eqi rfl rfl) ?_; refine th_env (d := 218) (v := .bool true) (by show Value.bool (decide (_ = _)) = _; simp) ?_; refine th_take (i := 16) (listed' := #[tt,tt,tt,tt,tt,tt,tt,tt,tt,tt,tt,tt,tt,tt,tt,tt,tt]) rfl kqz kqz kqz rfl rfl (o_assign (by conv => lhs; whnf)) ?_; refine th_done kqz ?_; refine q_then_n ?_; refine tc_ret ?_; refine q_block_r (q_then_r ?_); refine ⟨.bool true, _, res1 rfl rfl, ?_, s210, rfl, by have h9 := cr_len t.kp s; rw [hs210] at h9; exact h9, crS_room hs210 hwf hrk, rfl⟩; exact Dr.sat drqz
                · try simp only [lv1, lv2, lv3, lv4, lv5, lv6, Bool.not_true, Bool.not_false] at h
                  refine sr ?_; refine tv (o_eqi rfl rfl) ?_; refine tla ?_; refine nq ?_; refine tc_cond rfl (fun h => ?_) (fun h => ?_)
                  · try simp only [lv1, lv2, lv3, lv4, lv5, lv6, Bool.not_true, Bool.not_false] at h
                    refine tc_seq ?_; refine tc_regh (S := F * pt b (cl [.pointer (some ⟨d, 0, none⟩), .pointer (some ⟨bl, 0, none⟩), .pointer (some ⟨r, 0, none⟩), .pointer (some ⟨bk, 0, none⟩)] 45) * pt bl (cl (lcs11 d at_ sz) 94) * pt bk (cl (lcs11 r at_ sz) 96) * pt b4 (cl t.cells 50)) mo drqz ?_
                    show TH _ _ _ _ _ 12 #[ff,ff,ff,ff,ff,ff,ff,ff,ff,ff,ff,ff] _ _
                    refine th_take (i := 0) (listed' := #[tt,ff,ff,ff,ff,ff,ff,ff,ff,ff,ff,ff]) rfl kqz kqz kqz rfl rfl (o_move (by conv => lhs; whnf)) ?_; refine th_take (i := 1) (listed' := #[tt,tt,ff,ff,ff,ff,ff,ff,ff,ff,ff,ff]) rfl kqz kqz kqz rfl rfl (o_nilCheck rfl) ?_; refine th_take (i := 2) (listed' := #[tt,tt,tt,ff,ff,ff,ff,ff,ff,ff,ff,ff]) rfl kqz kqz kqz rfl rfl (o_fieldAddr (o := 0) Tryz.underlying45 rfl rfl sz28 rfl) ?_; refine th_take (i := 3) (listed' := #[tt,tt,tt,tt,ff,ff,ff,ff,ff,ff,ff,ff]) rfl kqz kqz kqz rfl rfl (by first | exact o_load p28 rfl hsqz rfl | exact o_loadC p28 rfl (by assumption)) ?_; refine th_take (i := 5) (listed' := #[tt,tt,tt,tt,ff,tt,ff,ff,ff,ff,ff,ff]) rfl kqz kqz kqz rfl rfl (o_move (by conv => lhs; whnf)) ?_; refine th_take (i := 6) (listed' := #[tt,tt,tt,tt,ff,tt,tt,ff,ff,ff,ff,ff]) rfl kqz kqz kqz rfl rfl (o_nilCheck rfl) ?_; refine th_take (i := 7) (listed' := #[tt,tt,tt,tt,ff,tt,tt,tt,ff,ff,ff,ff]) rfl kqz kqz kqz rfl rfl (o_fieldAddr (o := 2) Tryz.underlying45 rfl rfl sz33 rfl) ?_; refine th_take (i := 8) (listed' := #[tt,tt,tt,tt,ff,tt,tt,tt,tt,ff,ff,ff]) rfl kqz kqz kqz rfl rfl (by first | exact o_load p33 rfl hsqz rfl | exact o_loadC p33 rfl (by assumption)) ?_
                    refine th_one (i := 4) kqz ?_; refine oh_c (i := 4) (listed' := #[tt,tt,tt,tt,tt,tt,tt,tt,tt,ff,ff,ff]) rfl rfl rfl (o_call bd45 rfl (Wake_c)) ?_; rintro _ _ ⟨rfl, rfl⟩; refine ⟨by repeat (first | with_reducible exact dr_refl | apply dr_keep | apply dr_drop), ?_⟩; refine th_one (i := 9) kqz ?_; refine oh_c (i := 9) (listed' := #[tt,tt,tt,tt,tt,tt,tt,tt,tt,tt,ff,ff]) rfl rfl rfl (o_call bd46 rfl (rWake_c)) ?_; rintro _ _ ⟨rfl, rfl⟩; refine ⟨by repeat (first | with_reducible exact dr_refl | apply dr_keep | apply dr_drop), ?_⟩; refine th_take (i := 10) (listed' := #[tt,tt,tt,tt,tt,tt,tt,tt,tt,tt,tt,ff]) rfl kqz kqz kqz rfl rfl (o_eqi rfl rfl) ?_; refine th_env (d := 231) (v := .bool true) (by show Value.bool (decide (_ = _)) = _; simp) ?_; refine th_take (i := 11) (listed' := #[tt,tt,tt,tt,tt,tt,tt,tt,tt,tt,tt,tt]) rfl kqz kqz kqz rfl rfl (o_assign (by conv => lhs; whnf)) ?_; refine th_done kqz ?_; refine q_then_n ?_; refine tc_ret ?_; refine q_block_r (q_then_r ?_); refine ⟨.bool true, _, res1 rfl rfl, ?_, { s with off := false }, rfl, rfl, hrk, rfl⟩; exact Dr.sat drqz
                  · try simp only [lv1, lv2, lv3, lv4, lv5, lv6, Bool.not_true, Bool.not_false] at h
                    refine sr ?_; refine tv (o_eqi rfl rfl) ?_; refine tla ?_; refine nq ?_; refine tc_cond rfl (fun h => ?_) (fun h => ?_)
                    · try simp only [lv1, lv2, lv3, lv4, lv5, lv6, Bool.not_true, Bool.not_false] at h
                      refine sr ?_; refine tv (o_fieldAddr (o := 2) Tryz.underlying50 rfl rfl sz3 rfl) ?_; refine tv (by first | exact o_load p3 rfl hsqz rfl | exact o_loadC p3 rfl (by assumption)) ?_; refine tv (o_fieldAddr (o := 5) Tryz.underlying50 rfl rfl sz48 rfl) ?_; refine tv (by first | exact o_load p48 rfl hsqz rfl | exact o_loadC p48 rfl (by assumption)) ?_; refine tv (o_bS (l := [_, _]) (pv_cons (by conv => lhs; whnf) (pv_cons (by conv => lhs; whnf) pv_nil)) Tryz.underlying107 z107 (pl107 Tryz.underlying107) rfl) ?_; refine tl_x rfl (o_alloc z107 rfl) ?_; rintro _ _ ⟨b19, rfl, rfl⟩; refine tl_u rfl (o_stUN (l' := [.int .i64 t.n, .slice t.ka t.kp.length t.kc]) rfl upqz sz107 rfl rfl rfl (by show 2 ≤ 2; decide) rfl) ?_; refine nq ?_; refine tc_seq ?_; refine tc_regh (S := F * pt b (cl [.pointer (some ⟨d, 0, none⟩), .pointer (some ⟨bl, 0, none⟩), .pointer (some ⟨r, 0, none⟩), .pointer (some ⟨bk, 0, none⟩)] 45) * pt bl (cl (lcs11 d at_ sz) 94) * pt bk (cl (lcs11 r at_ sz) 96) * pt b4 (cl t.cells 50) * pt b19 (cl [.int .i64 t.n, .slice t.ka t.kp.length t.kc] 107)) mo drqz ?_
                      show TH _ _ _ _ _ 21 #[ff,ff,ff,ff,ff,ff,ff,ff,ff,ff,ff,ff,ff,ff,ff,ff,ff,ff,ff,ff,ff] _ _
                      refine th_take (i := 0) (listed' := #[tt,ff,ff,ff,ff,ff,ff,ff,ff,ff,ff,ff,ff,ff,ff,ff,ff,ff,ff,ff,ff]) rfl kqz kqz kqz rfl rfl (o_move (by conv => lhs; whnf)) ?_; refine th_take (i := 1) (listed' := #[tt,tt,ff,ff,ff,ff,ff,ff,ff,ff,ff,ff,ff,ff,ff,ff,ff,ff,ff,ff,ff]) rfl kqz kqz kqz rfl rfl (o_nilCheck rfl) ?_; refine th_take (i := 2) (listed' := #[tt,tt,tt,ff,ff,ff,ff,ff,ff,ff,ff,ff,ff,ff,ff,ff,ff,ff,ff,ff,ff]) rfl kqz kqz kqz rfl rfl (o_fieldAddr (o := 0) Tryz.underlying45 rfl rfl sz28 rfl) ?_; refine th_take (i := 3) (listed' := #[tt,tt,tt,tt,ff,ff,ff,ff,ff,ff,ff,ff,ff,ff,ff,ff,ff,ff,ff,ff,ff]) rfl kqz kqz kqz rfl rfl (by first | exact o_load p28 rfl hsqz rfl | exact o_loadC p28 rfl (by assumption)) ?_; refine th_take (i := 4) (listed' := #[tt,tt,tt,tt,tt,ff,ff,ff,ff,ff,ff,ff,ff,ff,ff,ff,ff,ff,ff,ff,ff]) rfl kqz kqz kqz rfl rfl (o_fieldAddr (o := 2) Tryz.underlying50 rfl rfl sz3 rfl) ?_; refine th_take (i := 5) (listed' := #[tt,tt,tt,tt,tt,tt,ff,ff,ff,ff,ff,ff,ff,ff,ff,ff,ff,ff,ff,ff,ff]) rfl kqz kqz kqz rfl rfl (by first | exact o_load p3 rfl hsqz rfl | exact o_loadC p3 rfl (by assumption)) ?_
                      refine th_take (i := 6) (listed' := #[tt,tt,tt,tt,tt,tt,tt,ff,ff,ff,ff,ff,ff,ff,ff,ff,ff,ff,ff,ff,ff]) rfl kqz kqz kqz rfl rfl (o_fieldAddr (o := 5) Tryz.underlying50 rfl rfl sz48 rfl) ?_; refine th_take (i := 7) (listed' := #[tt,tt,tt,tt,tt,tt,tt,tt,ff,ff,ff,ff,ff,ff,ff,ff,ff,ff,ff,ff,ff]) rfl kqz kqz kqz rfl rfl (by first | exact o_load p48 rfl hsqz rfl | exact o_loadC p48 rfl (by assumption)) ?_; refine th_take (i := 12) (listed' := #[tt,tt,tt,tt,tt,tt,tt,tt,ff,ff,ff,ff,tt,ff,ff,ff,ff,ff,ff,ff,ff]) rfl kqz kqz kqz rfl rfl (o_move (by conv => lhs; whnf)) ?_; refine th_take (i := 13) (listed' := #[tt,tt,tt,tt,tt,tt,tt,tt,ff,ff,ff,ff,tt,tt,ff,ff,ff,ff,ff,ff,ff]) rfl kqz kqz kqz rfl rfl (o_nilCheck rfl) ?_; refine th_take (i := 14) (listed' := #[tt,tt,tt,tt,tt,tt,tt,tt,ff,ff,ff,ff,tt,tt,tt,ff,ff,ff,ff,ff,ff]) rfl kqz kqz kqz rfl rfl (o_fieldAddr (o := 2) Tryz.underlying45 rfl rfl sz33 rfl) ?_; refine th_take (i := 15) (listed' := #[tt,tt,tt,tt,tt,tt,tt,tt,ff,ff,ff,ff,tt,tt,tt,tt,ff,ff,ff,ff,ff]) rfl kqz kqz kqz rfl rfl (by first | exact o_load p33 rfl hsqz rfl | exact o_loadC p33 rfl (by assumption)) ?_
                      refine th_take (i := 16) (listed' := #[tt,tt,tt,tt,tt,tt,tt,tt,ff,ff,ff,ff,tt,tt,tt,tt,tt,ff,ff,ff,ff]) rfl kqz kqz kqz rfl rfl (o_loadN (vs := [.int .i64 t.n, .slice t.ka t.kp.length t.kc]) a107 sz107 rfl hsqz (by show 2 ≤ 2; decide) rfl) ?_; refine th_two (i := 8) (j := 17) kqz ?_ ?_
                      · skip
                        refine oh_c (i := 8) (listed' := #[tt,tt,tt,tt,tt,tt,tt,tt,tt,ff,ff,ff,tt,tt,tt,tt,tt,ff,ff,ff,ff]) rfl rfl rfl (o_call bd43 rfl (CopyInts_c (xs := t.kp) (hm := rfl))) ?_; rintro _ _ ⟨a247, c247, rfl, hc247, rfl⟩; refine ⟨by repeat (first | with_reducible exact dr_refl | apply dr_keep | apply dr_drop), ?_⟩; refine th_take (i := 9) (listed' := #[tt,tt,tt,tt,tt,tt,tt,tt,tt,tt,ff,ff,tt,tt,tt,tt,tt,ff,ff,ff,ff]) rfl kqz kqz kqz rfl rfl (o_bS (l := [_, _]) (pv_cons (by conv => lhs; whnf) (pv_cons (by conv => lhs; whnf) pv_nil)) Tryz.underlying107 z107 (pl107 Tryz.underlying107) rfl) ?_; refine th_two (i := 10) (j := 17) kqz ?_ ?_
                        · skip
                          refine oh_x (i := 10) (listed' := #[tt,tt,tt,tt,tt,tt,tt,tt,tt,tt,tt,ff,tt,tt,tt,tt,tt,ff,ff,ff,ff]) rfl rfl rfl (o_buildSliceK (k := 2) (l := [.int .i64 t.n, .slice a247 t.kp.length c247]) Tryz.underlying53 sz107 z107 rfl rfl (by decide)) ?_; rintro _ _ ⟨b249, rfl, rfl⟩; refine ⟨by repeat (first | with_reducible exact dr_refl | apply dr_keep | apply dr_drop), ?_⟩; refine th_two (i := 11) (j := 17) kqz ?_ ?_
                          · skip
                            refine oh_c (i := 11) (listed' := #[tt,tt,tt,tt,tt,tt,tt,tt,tt,tt,tt,tt,tt,tt,tt,tt,tt,ff,ff,ff,ff]) rfl rfl rfl (o_call bd47 rfl (Arm_c (s := s) (kvs := [.slice a247 t.kp.length c247]) (ars := [(t.n, t.kp)]) (hm := rfl) (hr := ⟨show Rs _ _ [.int .i64 t.n, .slice a247 t.kp.length c247] from sq3z, rfl, fun i h => by have h0 : i = 0 := (by simpa using h); subst h0; exact ⟨_, _, rfl, hc247, show Rs _ _ (ints t.kp) from sq3z⟩⟩) (hk := fun x hx => by rw [List.mem_singleton] at hx; subst hx; exact ⟨hn, by show t.kp.length ≤ _; omega, hkk⟩))) ?_; rintro _ _ ⟨e250, s250, hs250, rfl, rfl⟩; refine ⟨by repeat (first | with_reducible exact dr_refl | apply dr_keep | apply dr_drop), ?_⟩; refine th_one (i := 17) kqz ?_; refine oh_x (i := 17) (listed' := #[tt,tt,tt,tt,tt,tt,tt,tt,tt,tt,tt,tt,tt,tt,tt,tt,tt,tt,ff,ff,ff]) rfl rfl rfl (o_buildSliceK (k := 2) (l := [.int .i64 t.n, .slice t.ka t.kp.length t.kc]) Tryz.underlying53 sz107 z107 rfl rfl (by decide)) ?_; rintro _ _ ⟨b256, rfl, rfl⟩; refine ⟨by repeat (first | with_reducible exact dr_refl | apply dr_keep | apply dr_drop), ?_⟩; refine th_one (i := 18) kqz ?_
                            refine oh_c (i := 18) (listed' := #[tt,tt,tt,tt,tt,tt,tt,tt,tt,tt,tt,tt,tt,tt,tt,tt,tt,tt,tt,ff,ff]) rfl rfl rfl (o_call bd48 rfl (rArm_c (s := s) (kvs := [.slice t.ka t.kp.length t.kc]) (ars := [(t.n, t.kp)]) (hm := rfl) (hr := ⟨show Rs _ _ [.int .i64 t.n, .slice t.ka t.kp.length t.kc] from sq3z, rfl, fun i h => by have h0 : i = 0 := (by simpa using h); subst h0; exact ⟨_, _, rfl, hkc, by repeat (first | exact hkr | apply Rs.left)⟩⟩) (hk := fun x hx => by rw [List.mem_singleton] at hx; subst hx; exact ⟨hn, by show t.kp.length ≤ _; omega, hkk⟩))) ?_; rintro _ _ ⟨e257, s257, hs257, rfl, rfl⟩; refine ⟨by repeat (first | with_reducible exact dr_refl | apply dr_keep | apply dr_drop), ?_⟩
                            obtain ⟨rfl, rfl⟩ : e250 = e257 ∧ s250 = s257 := by rw [hs250] at hs257; simpa using hs257
                            refine th_take (i := 19) (listed' := #[tt,tt,tt,tt,tt,tt,tt,tt,tt,tt,tt,tt,tt,tt,tt,tt,tt,tt,tt,tt,ff]) rfl kqz kqz kqz rfl rfl (o_eqi rfl rfl) ?_; refine th_env (d := 258) (v := .bool true) (by show Value.bool (decide (_ = _)) = _; simp) ?_; refine th_take (i := 20) (listed' := #[tt,tt,tt,tt,tt,tt,tt,tt,tt,tt,tt,tt,tt,tt,tt,tt,tt,tt,tt,tt,tt]) rfl kqz kqz kqz rfl rfl (o_assign (by conv => lhs; whnf)) ?_; refine th_done kqz ?_; refine q_then_n ?_; refine tc_ret ?_; refine q_block_r (q_then_r ?_); refine ⟨.bool true, _, res1 rfl rfl, ?_, s250, rfl, by have h9 := arm_len [(t.n, t.kp)] s; rw [hs250] at h9; exact h9, armS_room hs250 hrk, rfl⟩; exact Dr.sat drqz
                          · skip
                            refine oh_x (i := 17) (listed' := #[tt,tt,tt,tt,tt,tt,tt,tt,tt,tt,tt,ff,tt,tt,tt,tt,tt,tt,ff,ff,ff]) rfl rfl rfl (o_buildSliceK (k := 2) (l := [.int .i64 t.n, .slice t.ka t.kp.length t.kc]) Tryz.underlying53 sz107 z107 rfl rfl (by decide)) ?_; rintro _ _ ⟨b256, rfl, rfl⟩; refine ⟨by repeat (first | with_reducible exact dr_refl | apply dr_keep | apply dr_drop), ?_⟩; refine th_one (i := 11) kqz ?_; refine oh_c (i := 11) (listed' := #[tt,tt,tt,tt,tt,tt,tt,tt,tt,tt,tt,tt,tt,tt,tt,tt,tt,tt,ff,ff,ff]) rfl rfl rfl (o_call bd47 rfl (Arm_c (s := s) (kvs := [.slice a247 t.kp.length c247]) (ars := [(t.n, t.kp)]) (hm := rfl) (hr := ⟨show Rs _ _ [.int .i64 t.n, .slice a247 t.kp.length c247] from sq3z, rfl, fun i h => by have h0 : i = 0 := (by simpa using h); subst h0; exact ⟨_, _, rfl, hc247, show Rs _ _ (ints t.kp) from sq3z⟩⟩) (hk := fun x hx => by rw [List.mem_singleton] at hx; subst hx; exact ⟨hn, by show t.kp.length ≤ _; omega, hkk⟩))) ?_; rintro _ _ ⟨e250, s250, hs250, rfl, rfl⟩; refine ⟨by repeat (first | with_reducible exact dr_refl | apply dr_keep | apply dr_drop), ?_⟩; refine th_one (i := 18) kqz ?_
                            refine oh_c (i := 18) (listed' := #[tt,tt,tt,tt,tt,tt,tt,tt,tt,tt,tt,tt,tt,tt,tt,tt,tt,tt,tt,ff,ff]) rfl rfl rfl (o_call bd48 rfl (rArm_c (s := s) (kvs := [.slice t.ka t.kp.length t.kc]) (ars := [(t.n, t.kp)]) (hm := rfl) (hr := ⟨show Rs _ _ [.int .i64 t.n, .slice t.ka t.kp.length t.kc] from sq3z, rfl, fun i h => by have h0 : i = 0 := (by simpa using h); subst h0; exact ⟨_, _, rfl, hkc, by repeat (first | exact hkr | apply Rs.left)⟩⟩) (hk := fun x hx => by rw [List.mem_singleton] at hx; subst hx; exact ⟨hn, by show t.kp.length ≤ _; omega, hkk⟩))) ?_; rintro _ _ ⟨e257, s257, hs257, rfl, rfl⟩; refine ⟨by repeat (first | with_reducible exact dr_refl | apply dr_keep | apply dr_drop), ?_⟩
                            obtain ⟨rfl, rfl⟩ : e250 = e257 ∧ s250 = s257 := by rw [hs250] at hs257; simpa using hs257
                            refine th_take (i := 19) (listed' := #[tt,tt,tt,tt,tt,tt,tt,tt,tt,tt,tt,tt,tt,tt,tt,tt,tt,tt,tt,tt,ff]) rfl kqz kqz kqz rfl rfl (o_eqi rfl rfl) ?_; refine th_env (d := 258) (v := .bool true) (by show Value.bool (decide (_ = _)) = _; simp) ?_; refine th_take (i := 20) (listed' := #[tt,tt,tt,tt,tt,tt,tt,tt,tt,tt,tt,tt,tt,tt,tt,tt,tt,tt,tt,tt,tt]) rfl kqz kqz kqz rfl rfl (o_assign (by conv => lhs; whnf)) ?_; refine th_done kqz ?_; refine q_then_n ?_; refine tc_ret ?_; refine q_block_r (q_then_r ?_); refine ⟨.bool true, _, res1 rfl rfl, ?_, s250, rfl, by have h9 := arm_len [(t.n, t.kp)] s; rw [hs250] at h9; exact h9, armS_room hs250 hrk, rfl⟩; exact Dr.sat drqz
                        · skip
                          refine oh_x (i := 17) (listed' := #[tt,tt,tt,tt,tt,tt,tt,tt,tt,tt,ff,ff,tt,tt,tt,tt,tt,tt,ff,ff,ff]) rfl rfl rfl (o_buildSliceK (k := 2) (l := [.int .i64 t.n, .slice t.ka t.kp.length t.kc]) Tryz.underlying53 sz107 z107 rfl rfl (by decide)) ?_; rintro _ _ ⟨b256, rfl, rfl⟩; refine ⟨by repeat (first | with_reducible exact dr_refl | apply dr_keep | apply dr_drop), ?_⟩; refine th_one (i := 10) kqz ?_; refine oh_x (i := 10) (listed' := #[tt,tt,tt,tt,tt,tt,tt,tt,tt,tt,tt,ff,tt,tt,tt,tt,tt,tt,ff,ff,ff]) rfl rfl rfl (o_buildSliceK (k := 2) (l := [.int .i64 t.n, .slice a247 t.kp.length c247]) Tryz.underlying53 sz107 z107 rfl rfl (by decide)) ?_; rintro _ _ ⟨b249, rfl, rfl⟩; refine ⟨by repeat (first | with_reducible exact dr_refl | apply dr_keep | apply dr_drop), ?_⟩; refine th_one (i := 11) kqz ?_; refine oh_c (i := 11) (listed' := #[tt,tt,tt,tt,tt,tt,tt,tt,tt,tt,tt,tt,tt,tt,tt,tt,tt,tt,ff,ff,ff]) rfl rfl rfl (o_call bd47 rfl (Arm_c (s := s) (kvs := [.slice a247 t.kp.length c247]) (ars := [(t.n, t.kp)]) (hm := rfl) (hr := ⟨show Rs _ _ [.int .i64 t.n, .slice a247 t.kp.length c247] from sq3z, rfl, fun i h => by have h0 : i = 0 := (by simpa using h); subst h0; exact ⟨_, _, rfl, hc247, show Rs _ _ (ints t.kp) from sq3z⟩⟩) (hk := fun x hx => by rw [List.mem_singleton] at hx; subst hx; exact ⟨hn, by show t.kp.length ≤ _; omega, hkk⟩))) ?_
                          rintro _ _ ⟨e250, s250, hs250, rfl, rfl⟩; refine ⟨by repeat (first | with_reducible exact dr_refl | apply dr_keep | apply dr_drop), ?_⟩; refine th_one (i := 18) kqz ?_; refine oh_c (i := 18) (listed' := #[tt,tt,tt,tt,tt,tt,tt,tt,tt,tt,tt,tt,tt,tt,tt,tt,tt,tt,tt,ff,ff]) rfl rfl rfl (o_call bd48 rfl (rArm_c (s := s) (kvs := [.slice t.ka t.kp.length t.kc]) (ars := [(t.n, t.kp)]) (hm := rfl) (hr := ⟨show Rs _ _ [.int .i64 t.n, .slice t.ka t.kp.length t.kc] from sq3z, rfl, fun i h => by have h0 : i = 0 := (by simpa using h); subst h0; exact ⟨_, _, rfl, hkc, by repeat (first | exact hkr | apply Rs.left)⟩⟩) (hk := fun x hx => by rw [List.mem_singleton] at hx; subst hx; exact ⟨hn, by show t.kp.length ≤ _; omega, hkk⟩))) ?_; rintro _ _ ⟨e257, s257, hs257, rfl, rfl⟩; refine ⟨by repeat (first | with_reducible exact dr_refl | apply dr_keep | apply dr_drop), ?_⟩
                          obtain ⟨rfl, rfl⟩ : e250 = e257 ∧ s250 = s257 := by rw [hs250] at hs257; simpa using hs257
                          refine th_take (i := 19) (listed' := #[tt,tt,tt,tt,tt,tt,tt,tt,tt,tt,tt,tt,tt,tt,tt,tt,tt,tt,tt,tt,ff]) rfl kqz kqz kqz rfl rfl (o_eqi rfl rfl) ?_; refine th_env (d := 258) (v := .bool true) (by show Value.bool (decide (_ = _)) = _; simp) ?_; refine th_take (i := 20) (listed' := #[tt,tt,tt,tt,tt,tt,tt,tt,tt,tt,tt,tt,tt,tt,tt,tt,tt,tt,tt,tt,tt]) rfl kqz kqz kqz rfl rfl (o_assign (by conv => lhs; whnf)) ?_; refine th_done kqz ?_; refine q_then_n ?_; refine tc_ret ?_; refine q_block_r (q_then_r ?_); refine ⟨.bool true, _, res1 rfl rfl, ?_, s250, rfl, by have h9 := arm_len [(t.n, t.kp)] s; rw [hs250] at h9; exact h9, armS_room hs250 hrk, rfl⟩; exact Dr.sat drqz
                      · skip
                        refine oh_x (i := 17) (listed' := #[tt,tt,tt,tt,tt,tt,tt,tt,ff,ff,ff,ff,tt,tt,tt,tt,tt,tt,ff,ff,ff]) rfl rfl rfl (o_buildSliceK (k := 2) (l := [.int .i64 t.n, .slice t.ka t.kp.length t.kc]) Tryz.underlying53 sz107 z107 rfl rfl (by decide)) ?_; rintro _ _ ⟨b256, rfl, rfl⟩; refine ⟨by repeat (first | with_reducible exact dr_refl | apply dr_keep | apply dr_drop), ?_⟩; refine th_one (i := 8) kqz ?_; refine oh_c (i := 8) (listed' := #[tt,tt,tt,tt,tt,tt,tt,tt,tt,ff,ff,ff,tt,tt,tt,tt,tt,tt,ff,ff,ff]) rfl rfl rfl (o_call bd43 rfl (CopyInts_c (xs := t.kp) (hm := rfl))) ?_; rintro _ _ ⟨a247, c247, rfl, hc247, rfl⟩; refine ⟨by repeat (first | with_reducible exact dr_refl | apply dr_keep | apply dr_drop), ?_⟩; refine th_take (i := 9) (listed' := #[tt,tt,tt,tt,tt,tt,tt,tt,tt,tt,ff,ff,tt,tt,tt,tt,tt,tt,ff,ff,ff]) rfl kqz kqz kqz rfl rfl (o_bS (l := [_, _]) (pv_cons (by conv => lhs; whnf) (pv_cons (by conv => lhs; whnf) pv_nil)) Tryz.underlying107 z107 (pl107 Tryz.underlying107) rfl) ?_; refine th_one (i := 10) kqz ?_; refine oh_x (i := 10) (listed' := #[tt,tt,tt,tt,tt,tt,tt,tt,tt,tt,tt,ff,tt,tt,tt,tt,tt,tt,ff,ff,ff]) rfl rfl rfl (o_buildSliceK (k := 2) (l := [.int .i64 t.n, .slice a247 t.kp.length c247]) Tryz.underlying53 sz107 z107 rfl rfl (by decide)) ?_
                        rintro _ _ ⟨b249, rfl, rfl⟩; refine ⟨by repeat (first | with_reducible exact dr_refl | apply dr_keep | apply dr_drop), ?_⟩; refine th_one (i := 11) kqz ?_; refine oh_c (i := 11) (listed' := #[tt,tt,tt,tt,tt,tt,tt,tt,tt,tt,tt,tt,tt,tt,tt,tt,tt,tt,ff,ff,ff]) rfl rfl rfl (o_call bd47 rfl (Arm_c (s := s) (kvs := [.slice a247 t.kp.length c247]) (ars := [(t.n, t.kp)]) (hm := rfl) (hr := ⟨show Rs _ _ [.int .i64 t.n, .slice a247 t.kp.length c247] from sq3z, rfl, fun i h => by have h0 : i = 0 := (by simpa using h); subst h0; exact ⟨_, _, rfl, hc247, show Rs _ _ (ints t.kp) from sq3z⟩⟩) (hk := fun x hx => by rw [List.mem_singleton] at hx; subst hx; exact ⟨hn, by show t.kp.length ≤ _; omega, hkk⟩))) ?_; rintro _ _ ⟨e250, s250, hs250, rfl, rfl⟩; refine ⟨by repeat (first | with_reducible exact dr_refl | apply dr_keep | apply dr_drop), ?_⟩; refine th_one (i := 18) kqz ?_; refine oh_c (i := 18) (listed' := #[tt,tt,tt,tt,tt,tt,tt,tt,tt,tt,tt,tt,tt,tt,tt,tt,tt,tt,tt,ff,ff]) rfl rfl rfl (o_call bd48 rfl (rArm_c (s := s) (kvs := [.slice t.ka t.kp.length t.kc]) (ars := [(t.n, t.kp)]) (hm := rfl) (hr := ⟨show Rs _ _ [.int .i64 t.n, .slice t.ka t.kp.length t.kc] from sq3z, rfl, fun i h => by have h0 : i = 0 := (by simpa using h); subst h0; exact ⟨_, _, rfl, hkc, by repeat (first | exact hkr | apply Rs.left)⟩⟩) (hk := fun x hx => by rw [List.mem_singleton] at hx; subst hx; exact ⟨hn, by show t.kp.length ≤ _; omega, hkk⟩))) ?_
                        rintro _ _ ⟨e257, s257, hs257, rfl, rfl⟩; refine ⟨by repeat (first | with_reducible exact dr_refl | apply dr_keep | apply dr_drop), ?_⟩
                        obtain ⟨rfl, rfl⟩ : e250 = e257 ∧ s250 = s257 := by rw [hs250] at hs257; simpa using hs257
                        refine th_take (i := 19) (listed' := #[tt,tt,tt,tt,tt,tt,tt,tt,tt,tt,tt,tt,tt,tt,tt,tt,tt,tt,tt,tt,ff]) rfl kqz kqz kqz rfl rfl (o_eqi rfl rfl) ?_; refine th_env (d := 258) (v := .bool true) (by show Value.bool (decide (_ = _)) = _; simp) ?_; refine th_take (i := 20) (listed' := #[tt,tt,tt,tt,tt,tt,tt,tt,tt,tt,tt,tt,tt,tt,tt,tt,tt,tt,tt,tt,tt]) rfl kqz kqz kqz rfl rfl (o_assign (by conv => lhs; whnf)) ?_; refine th_done kqz ?_; refine q_then_n ?_; refine tc_ret ?_; refine q_block_r (q_then_r ?_); refine ⟨.bool true, _, res1 rfl rfl, ?_, s250, rfl, by have h9 := arm_len [(t.n, t.kp)] s; rw [hs250] at h9; exact h9, armS_room hs250 hrk, rfl⟩; exact Dr.sat drqz
                    · try simp only [lv1, lv2, lv3, lv4, lv5, lv6, Bool.not_true, Bool.not_false] at h
                      refine sr ?_; refine tv (o_eqi rfl rfl) ?_; refine tla ?_; refine nq ?_; refine tc_cond rfl (fun h => ?_) (fun h => ?_)
                      · try simp only [lv1, lv2, lv3, lv4, lv5, lv6, Bool.not_true, Bool.not_false] at h
                        refine tc_seq ?_; refine tc_regh (S := F * pt b (cl [.pointer (some ⟨d, 0, none⟩), .pointer (some ⟨bl, 0, none⟩), .pointer (some ⟨r, 0, none⟩), .pointer (some ⟨bk, 0, none⟩)] 45) * pt bl (cl (lcs11 d at_ sz) 94) * pt bk (cl (lcs11 r at_ sz) 96) * pt b4 (cl t.cells 50)) mo drqz ?_
                        show TH _ _ _ _ _ 20 #[ff,ff,ff,ff,ff,ff,ff,ff,ff,ff,ff,ff,ff,ff,ff,ff,ff,ff,ff,ff] _ _
                        refine th_take (i := 0) (listed' := #[tt,ff,ff,ff,ff,ff,ff,ff,ff,ff,ff,ff,ff,ff,ff,ff,ff,ff,ff,ff]) rfl kqz kqz kqz rfl rfl (o_move (by conv => lhs; whnf)) ?_; refine th_take (i := 1) (listed' := #[tt,tt,ff,ff,ff,ff,ff,ff,ff,ff,ff,ff,ff,ff,ff,ff,ff,ff,ff,ff]) rfl kqz kqz kqz rfl rfl (o_nilCheck rfl) ?_; refine th_take (i := 2) (listed' := #[tt,tt,tt,ff,ff,ff,ff,ff,ff,ff,ff,ff,ff,ff,ff,ff,ff,ff,ff,ff]) rfl kqz kqz kqz rfl rfl (o_fieldAddr (o := 0) Tryz.underlying45 rfl rfl sz28 rfl) ?_; refine th_take (i := 3) (listed' := #[tt,tt,tt,tt,ff,ff,ff,ff,ff,ff,ff,ff,ff,ff,ff,ff,ff,ff,ff,ff]) rfl kqz kqz kqz rfl rfl (by first | exact o_load p28 rfl hsqz rfl | exact o_loadC p28 rfl (by assumption)) ?_; refine th_take (i := 4) (listed' := #[tt,tt,tt,tt,tt,ff,ff,ff,ff,ff,ff,ff,ff,ff,ff,ff,ff,ff,ff,ff]) rfl kqz kqz kqz rfl rfl (o_move (by conv => lhs; whnf)) ?_; refine th_take (i := 5) (listed' := #[tt,tt,tt,tt,tt,tt,ff,ff,ff,ff,ff,ff,ff,ff,ff,ff,ff,ff,ff,ff]) rfl kqz kqz kqz rfl rfl (o_fieldAddr (o := 2) Tryz.underlying50 rfl rfl sz3 rfl) ?_; refine th_take (i := 6) (listed' := #[tt,tt,tt,tt,tt,tt,tt,ff,ff,ff,ff,ff,ff,ff,ff,ff,ff,ff,ff,ff]) rfl kqz kqz kqz rfl rfl (by first | exact o_load p3 rfl hsqz rfl | exact o_loadC p3 rfl (by assumption)) ?_
                        refine th_take (i := 7) (listed' := #[tt,tt,tt,tt,tt,tt,tt,tt,ff,ff,ff,ff,ff,ff,ff,ff,ff,ff,ff,ff]) rfl kqz kqz kqz rfl rfl (by first | exact o_conv64 Tryz.underlying3 Tryz.underlying66 rfl | exact o_conv Tryz.underlying3 Tryz.underlying66 rfl) ?_; refine th_env (d := 268) (v := .int .u64 ((((t.n % 18446744073709551616).toNat) : Nat) : Int)) (by show Value.int .u64 (IntKind.u64.wrap t.n) = _; rw [Int.toNat_of_nonneg (Int.emod_nonneg _ (by decide))]; simp [IntKind.wrap, IntKind.bits, IntKind.signed]) ?_; refine th_take (i := 9) (listed' := #[tt,tt,tt,tt,tt,tt,tt,tt,ff,tt,ff,ff,ff,ff,ff,ff,ff,ff,ff,ff]) rfl kqz kqz kqz rfl rfl (o_move (by conv => lhs; whnf)) ?_; refine th_take (i := 10) (listed' := #[tt,tt,tt,tt,tt,tt,tt,tt,ff,tt,tt,ff,ff,ff,ff,ff,ff,ff,ff,ff]) rfl kqz kqz kqz rfl rfl (o_nilCheck rfl) ?_; refine th_take (i := 11) (listed' := #[tt,tt,tt,tt,tt,tt,tt,tt,ff,tt,tt,tt,ff,ff,ff,ff,ff,ff,ff,ff]) rfl kqz kqz kqz rfl rfl (o_fieldAddr (o := 2) Tryz.underlying45 rfl rfl sz33 rfl) ?_; refine th_take (i := 12) (listed' := #[tt,tt,tt,tt,tt,tt,tt,tt,ff,tt,tt,tt,tt,ff,ff,ff,ff,ff,ff,ff]) rfl kqz kqz kqz rfl rfl (by first | exact o_load p33 rfl hsqz rfl | exact o_loadC p33 rfl (by assumption)) ?_
                        refine th_take (i := 13) (listed' := #[tt,tt,tt,tt,tt,tt,tt,tt,ff,tt,tt,tt,tt,tt,ff,ff,ff,ff,ff,ff]) rfl kqz kqz kqz rfl rfl (o_move (by conv => lhs; whnf)) ?_; refine th_take (i := 14) (listed' := #[tt,tt,tt,tt,tt,tt,tt,tt,ff,tt,tt,tt,tt,tt,tt,ff,ff,ff,ff,ff]) rfl kqz kqz kqz rfl rfl (o_fieldAddr (o := 2) Tryz.underlying50 rfl rfl sz3 rfl) ?_; refine th_take (i := 15) (listed' := #[tt,tt,tt,tt,tt,tt,tt,tt,ff,tt,tt,tt,tt,tt,tt,tt,ff,ff,ff,ff]) rfl kqz kqz kqz rfl rfl (by first | exact o_load p3 rfl hsqz rfl | exact o_loadC p3 rfl (by assumption)) ?_; refine th_take (i := 16) (listed' := #[tt,tt,tt,tt,tt,tt,tt,tt,ff,tt,tt,tt,tt,tt,tt,tt,tt,ff,ff,ff]) rfl kqz kqz kqz rfl rfl (by first | exact o_conv64 Tryz.underlying3 Tryz.underlying66 rfl | exact o_conv Tryz.underlying3 Tryz.underlying66 rfl) ?_; refine th_env (d := 277) (v := .int .u64 ((((t.n % 18446744073709551616).toNat) : Nat) : Int)) (by show Value.int .u64 (IntKind.u64.wrap t.n) = _; rw [Int.toNat_of_nonneg (Int.emod_nonneg _ (by decide))]; simp [IntKind.wrap, IntKind.bits, IntKind.signed]) ?_; refine th_one (i := 8) kqz ?_; refine oh_c (i := 8) (listed' := #[tt,tt,tt,tt,tt,tt,tt,tt,tt,tt,tt,tt,tt,tt,tt,tt,tt,ff,ff,ff]) rfl rfl rfl (o_call bd49 rfl (Store8_c (s := s) (p := (at_ : Nat)) (v := ((t.n % 18446744073709551616).toNat)) (hv := by omega))) ?_
                        rintro _ _ ⟨e269, s269, hs269, rfl, rfl⟩; refine ⟨by repeat (first | with_reducible exact dr_refl | apply dr_keep | apply dr_drop), ?_⟩; refine th_one (i := 17) kqz ?_; refine oh_c (i := 17) (listed' := #[tt,tt,tt,tt,tt,tt,tt,tt,tt,tt,tt,tt,tt,tt,tt,tt,tt,tt,ff,ff]) rfl rfl rfl (o_call bd50 rfl (rStore8_c (s := s) (p := (at_ : Nat)) (v := ((t.n % 18446744073709551616).toNat)) (hv := by omega))) ?_; rintro _ _ ⟨e278, s278, hs278, rfl, rfl⟩; refine ⟨by repeat (first | with_reducible exact dr_refl | apply dr_keep | apply dr_drop), ?_⟩
                        obtain ⟨rfl, rfl⟩ : e269 = e278 ∧ s269 = s278 := by rw [hs269] at hs278; simpa using hs278
                        refine th_take (i := 18) (listed' := #[tt,tt,tt,tt,tt,tt,tt,tt,tt,tt,tt,tt,tt,tt,tt,tt,tt,tt,tt,ff]) rfl kqz kqz kqz rfl rfl (o_eqi rfl rfl) ?_; refine th_env (d := 279) (v := .bool true) (by show Value.bool (decide (_ = _)) = _; simp) ?_; refine th_take (i := 19) (listed' := #[tt,tt,tt,tt,tt,tt,tt,tt,tt,tt,tt,tt,tt,tt,tt,tt,tt,tt,tt,tt]) rfl kqz kqz kqz rfl rfl (o_assign (by conv => lhs; whnf)) ?_; refine th_done kqz ?_; refine q_then_n ?_; refine tc_ret ?_; refine q_block_r (q_then_r ?_); refine ⟨.bool true, _, res1 rfl rfl, ?_, s269, rfl, by have h9 := st8_len (at_ : Nat) ((t.n % 18446744073709551616).toNat) s; rw [hs269] at h9; exact h9, st8_room hs269 hwf oqz hrk1, rfl⟩; exact Dr.sat drqz
                      · try simp only [lv1, lv2, lv3, lv4, lv5, lv6, Bool.not_true, Bool.not_false] at h
                        refine tc_skip ?_; refine q_block_n (q_then_n ?_); refine sr ?_; refine tla ?_; refine nq ?_; refine tc_ret ?_; refine ⟨.bool true, _, res1 rfl rfl, ?_, s, rfl, rfl, hrk, rfl⟩; exact Dr.sat drqz
end Go.Vl

namespace Go.Vl
open Go Go.Proofs
theorem cellR2 {R : SP} {r : Nat} {s : DevS} : Cell (R * RDev r s) r 2 (.int .i64 s.ops) := fun g w hs => by
  obtain ⟨hw, lv, rls, av, kvs, h1, h2, hs'⟩ := rdev_iff.1 hs
  obtain ⟨b, o, e, h⟩ := (rdevR_of hw h1 hs').d g w hs' 2 _ rfl
  simp only [Option.some.injEq, Addr.mk.injEq, and_true] at e
  obtain ⟨rfl, rfl⟩ := e
  exact h
theorem room_fromB {n m : Nat} {xs : List Nat} (h : m ≤ 2199023255551) : Room m (fromS n xs) := fun l hl => by
  obtain ⟨j, hj, rfl⟩ := List.mem_iff_getElem.1 hl
  simp only [fromS, List.getElem_mapIdx, lineF, List.length_singleton]; omega
theorem spl_b {l y : List Nat} {p : Nat} (h1 : ∀ x ∈ l, x < 256) (h2 : ∀ x ∈ y, x < 256) : ∀ x ∈ spl l p y, x < 256 := fun x hx => by
  unfold spl at hx
  simp only [List.mem_append] at hx
  rcases hx with (hx | hx) | hx
  · exact h1 x (List.mem_of_mem_take hx)
  · exact h2 x hx
  · exact h1 x (List.mem_of_mem_drop hx)
theorem ground_e {A : SP} {a sa : Option Addr} {m c sn sc : Nat} {far : Bool} {ln : Int} {xs : List Nat} (hr : Rs A a (bys xs)) (hm : xs.length = m) (hb : ∀ x ∈ xs, x < 256) (hln : -9223372036854775808 ≤ ln ∧ ln ≤ 9223372036854775807) (hml : m ≤ 140737488351232) :
    Fn Tryz.prog 4 #[.agg #[.slice a m c, .bool far, .int .i64 ln, .slice sa sn sc]] A (fun v B => ∃ a2 c2 at_ n sz I, ((at_ = 64 ∨ at_ = 128) ∧ 8 ≤ n ∧ n ≤ 16 ∧ sz % 64 = 0 ∧ 192 ≤ sz ∧ sz ≤ 320 ∧ I.length = n * 64 ∧ (∀ x ∈ I, x < 256)) ∧ v = .tuple #[.slice a2 (n * 64) c2, .int .i64 ((at_ : Nat) : Int), .int .i64 ((sz : Nat) : Int)] ∧ n * 64 ≤ c2 ∧ B = A * Sl 1 (.slice a2 (n * 64) c2) (n * 64) (bys I)) := by
  refine (ground_c hr hm hb hln hml).mono ?_; rintro v B ⟨a2, c2, at_, hat, rfl, hc, rfl⟩
  have h3 : 0 ≤ ln % 3 ∧ ln % 3 < 3 := ⟨Int.emod_nonneg _ (by decide), Int.emod_lt_of_pos _ (by decide)⟩
  have hsl := sizedL_len (64 * (8 + xs.length / 64 % 9)) xs
  have hatb : at_ = 64 ∨ at_ = 128 := by rw [hat]; split; exact .inr rfl; exact .inl rfl
  refine ⟨a2, c2, at_, 8 + xs.length / 64 % 9, 64 * (3 + (ln % 3).toNat), spl (sizedL (64 * (8 + xs.length / 64 % 9)) xs) at_ (List.replicate 8 0), ⟨hatb, by omega, by omega, by omega, by omega, by omega, ?_, ?_⟩, ?_, ?_, ?_⟩
  · rw [spl_length (by rw [List.length_replicate, hsl]; omega), hsl, Nat.mul_comm]
  · exact spl_b (sizedL_lt hb) (fun x hx => by rw [(List.mem_replicate.1 hx).2]; decide)
  · rw [Nat.mul_comm (8 + xs.length / 64 % 9)]
  · rw [Nat.mul_comm (8 + xs.length / 64 % 9)]; exact hc
  · rw [Nat.mul_comm (8 + xs.length / 64 % 9)]
/-- How much a step may add to a line. -/
def wS (l : List StU) (i : Nat) : Nat := ((l.drop i).map fun t => t.d.length + 330).sum
theorem wS_at {l : List StU} {i : Nat} (h : i < l.length) : wS l i = l[i].d.length + 330 + wS l (i + 1) := by unfold wS; rw [List.drop_eq_getElem_cons h, List.map_cons, List.sum_cons]
theorem wS_le : ∀ (l : List StU), (l.map fun t => t.d.length + 330).sum ≤ 331 * (l.map StU.sz).sum
  | [] => by simp
  | t :: l => by
    have := wS_le l
    simp only [List.map_cons, List.sum_cons]
    have h2 : t.d.length + 1 ≤ t.sz := by unfold StU.sz; omega
    omega
theorem wS_sz {l : List StU} {t : StU} (h : t ∈ l) : t.sz ≤ (l.map StU.sz).sum := by
  induction l with
  | nil => simp at h
  | cons y l ih =>
    simp only [List.map_cons, List.sum_cons]
    rcases List.mem_cons.1 h with rfl | h
    · omega
    · have := ih h; omega
theorem wS_len : ∀ {l : List StU}, l.length ≤ (l.map StU.sz).sum
  | [] => by simp
  | t :: l => by
    have := wS_len (l := l)
    simp only [List.map_cons, List.sum_cons, List.length_cons]
    have : 1 ≤ t.sz := by unfold StU.sz; omega
    omega
def tcs (l : List StU) : List Value := l.flatMap StU.cells
theorem tcs_len (l : List StU) : (tcs l).length = l.length * 6 := fm_length (f := StU.cells) fun _ _ => rfl
theorem tcs_at {l : List StU} {i : Nat} (h : i < l.length) : ((tcs l).drop (i * 6)).take 6 = l[i].cells := fm_at (f := StU.cells) (fun _ _ => rfl) h
/-- A world. -/
structure WoU where
  ia : Option Addr
  ic : Nat
  im : List Nat
  far : Bool
  ln : Int
  sa : Option Addr
  sc : Nat
  ts : List StU
def WoU.cells (t : WoU) : List Value := [.slice t.ia t.im.length t.ic, .bool t.far, .int .i64 t.ln, .slice t.sa t.ts.length t.sc]
structure WoUW (A : SP) (t : WoU) : Prop where
  icap : t.im.length ≤ t.ic
  irs : Rs A t.ia (bys t.im)
  iby : ∀ x ∈ t.im, x < 256
  ln : -9223372036854775808 ≤ t.ln ∧ t.ln ≤ 9223372036854775807
  scap : t.ts.length ≤ t.sc
  srs : Rs A t.sa (tcs t.ts)
  st : ∀ x ∈ t.ts, StUW A x
def WoU.sz (t : WoU) : Nat := t.im.length + (t.ts.map StU.sz).sum
def tzU : StU := ⟨3, 0, 0, none, 0, [], none, 0, [], none, 0, []⟩
theorem tzU_w {A : SP} : StUW A tzU := ⟨by decide, by decide, by decide, rs_none, fun x h => (by cases h), Nat.le_refl _, rs_none, fun x h => (by cases h), Nat.le_refl _, rs_none, fun x h => (by cases h)⟩
attribute [local irreducible] crk crL crc Sl pt ro Dev RDev imgS recS readS recsF rdW rdO rkT Parts rvl recordsS mdI mdK rise mds writeS rollS clearS oldsL kcl xcl lensX lst brL brX fiveX fromS
set_option maxRecDepth 20000 in
set_option maxHeartbeats 4000000 in
theorem UlogPlays_f {F : SP} {x : WoU} (hw : WoUW F x) (hsz : x.sz ≤ 1048576) :
    Fn Tryz.prog 3 #[.agg #[.slice x.ia x.im.length x.ic, .bool x.far, .int .i64 x.ln, .slice x.sa x.ts.length x.sc]] (F) (fun v B => v = .bool true ∧ B = F) := by
  refine fn_enterW (args := [.agg #[.slice x.ia x.im.length x.ic, .bool x.far, .int .i64 x.ln, .slice x.sa x.ts.length x.sc]]) Tryz.func3 rfl Tryz.ntmps3 (by simp) ?_
  have hir := hw.irs
  have hib := hw.iby
  have hln := hw.ln
  have hsr := hw.srs
  have hsz2 := hsz
  unfold WoU.sz at hsz2
  have hw0 : wS x.ts 0 ≤ 331 * (x.ts.map StU.sz).sum := wS_le x.ts
  have htl := wS_len (l := x.ts)
  refine sr ?_; refine tl_x rfl (o_box rfl rfl) ?_; rintro _ _ ⟨b1, rfl, rfl⟩; refine tla ?_; refine nq ?_; refine sr ?_; refine tv (o_loadN (vs := [.slice x.ia x.im.length x.ic, .bool x.far, .int .i64 x.ln, .slice x.sa x.ts.length x.sc]) a25 sz25 rfl hsqz (by show 4 ≤ 4; decide) rfl) ?_; refine tl_c rfl (o_call bd4 rfl (ground_e (xs := x.im) (by repeat (first | exact hir | apply Rs.left)) rfl hib hln oqz)) ?_; rintro _ _ ⟨a18, c18, at_, n, sz, I, ⟨hat, hn1, hn2, hz1, hz2, hz3, hIl, hIb⟩, rfl, hc18, rfl⟩; refine tlm ?_; refine tv (o_extract rfl rfl) ?_; refine tv (o_extract rfl rfl) ?_; refine tv (o_extract rfl rfl) ?_; refine tla ?_; refine tla ?_; refine tla ?_; refine nq ?_; refine sr ?_; refine tlm ?_; refine tl_c rfl (o_call bd6 rfl (CopyBytes_c (xs := I) (hm := hIl))) ?_; rintro _ _ ⟨a24, c24, rfl, hc24, rfl⟩; refine tl_c rfl (o_call bd5 rfl (From_c (n := n) (xs := I) (hr := (by repeat (first | with_reducible exact rs_sl | with_reducible exact rs_pt0 | apply Rs.left))) (hx := hIl))) ?_; rintro _ _ ⟨d25, rfl, rfl⟩; refine tlm ?_; refine tv (o_extract rfl rfl) ?_; refine tv (o_extract rfl rfl) ?_; refine tla ?_; refine tla ?_; refine nq ?_; refine sr ?_; refine tlm ?_; refine tl_c rfl (o_call bd7 rfl (rFrom_c (n := n) (xs := I) (hx := hIl))) ?_
  rintro _ _ ⟨d30, rfl, rfl⟩; refine tlm ?_; refine tv (o_extract rfl rfl) ?_; refine tv (o_extract rfl rfl) ?_; refine tla ?_; refine tla ?_; refine nq ?_; refine tc_seq ?_; refine sr ?_; refine tlm ?_; refine tv (o_nei rfl rfl) ?_; refine tlm ?_; refine tl_bool (d := 35) rfl (fun h => ?_) (fun h => ?_)
  · exfalso; simp at h
  · try simp only [lv1, lv2, lv3, lv4, lv5, lv6, Bool.not_true, Bool.not_false] at h
    refine tlm ?_; refine tv (o_nei rfl rfl) ?_; refine tv (o_pick_f rfl (by conv => lhs; whnf)) ?_; refine tlm ?_; refine tl_bool (d := 39) rfl (fun h => ?_) (fun h => ?_)
    · exfalso; simp at h
    · try simp only [lv1, lv2, lv3, lv4, lv5, lv6, Bool.not_true, Bool.not_false] at h
      refine tlm ?_; refine tv (o_eqp Tryz.underlying28 rfl rfl) ?_; refine tv (o_pick_f rfl (by conv => lhs; whnf)) ?_; refine tlm ?_; refine tl_bool (d := 43) rfl (fun h => ?_) (fun h => ?_)
      · exfalso; simp at h
      · try simp only [lv1, lv2, lv3, lv4, lv5, lv6, Bool.not_true, Bool.not_false] at h
        refine tl_c rfl (o_call bd8 rfl (awake11_c)) ?_; rintro _ _ ⟨rfl, rfl⟩; refine tv (o_not rfl) ?_; refine tv (o_pick_f rfl (by conv => lhs; whnf)) ?_; refine nq ?_; refine tc_cond rfl (fun h => ?_) (fun h => ?_)
        · exfalso; simp at h
        · try simp only [lv1, lv2, lv3, lv4, lv5, lv6, Bool.not_true, Bool.not_false] at h
          refine tc_skip ?_; refine q_then_n ?_; refine tc_seq ?_
          have hl9 : (fromS n I).ls.length = n := fromS_len n I
          have hlw : LogW (n * 64) at_ sz := ⟨by omega, by omega, by omega, hz1, by omega⟩
          refine tc_reg ?_; refine tlm ?_; refine tlm ?_; refine tlm ?_; refine tl_c rfl (o_call bd9 rfl (Open_ok (s := fromS n I) (p := (at_ : Nat)) (q := (sz : Nat)) (hok := by rw [hl9]; omega))) ?_; rintro _ _ ⟨b51, rfl, rfl⟩; refine tlm ?_; refine tv (o_extract rfl rfl) ?_; refine tv (o_extract rfl rfl) ?_; refine tla ?_; refine tla ?_; refine nq ?_; refine sr ?_; refine tlm ?_; refine tlm ?_; refine tlm ?_; refine tl_c rfl (o_call bd10 rfl (rOpen_ok (s := fromS n I) (p := (at_ : Nat)) (q := (sz : Nat)) (hp := by omega) (hq := by omega) (hok := by rw [hl9]; omega))) ?_; rintro _ _ ⟨b58, rfl, rfl⟩; refine tlm ?_; refine tv (o_extract rfl rfl) ?_; refine tv (o_extract rfl rfl) ?_; refine tla ?_; refine tla ?_; refine nq ?_; refine tc_seq ?_; refine sr ?_; refine tlm ?_; refine tv (o_nei rfl rfl) ?_; refine tlm ?_; refine tl_bool (d := 63) rfl (fun h => ?_) (fun h => ?_)
          · exfalso; simp at h
          · try simp only [lv1, lv2, lv3, lv4, lv5, lv6, Bool.not_true, Bool.not_false] at h
            refine tlm ?_; refine tv (o_nei rfl rfl) ?_; refine tv (o_pick_f rfl (by conv => lhs; whnf)) ?_; refine tlm ?_; refine tl_bool (d := 67) rfl (fun h => ?_) (fun h => ?_)
            · exfalso; simp at h
            · try simp only [lv1, lv2, lv3, lv4, lv5, lv6, Bool.not_true, Bool.not_false] at h
              refine tlm ?_; refine tv (o_eqp Tryz.underlying37 rfl rfl) ?_; refine tv (o_pick_f rfl (by conv => lhs; whnf)) ?_; refine nq ?_; refine tc_cond rfl (fun h => ?_) (fun h => ?_)
              · exfalso; simp at h
              · try simp only [lv1, lv2, lv3, lv4, lv5, lv6, Bool.not_true, Bool.not_false] at h
                refine tc_skip ?_; refine q_then_n ?_; refine sr ?_; refine tlm ?_; refine tlm ?_; refine tlm ?_; refine tlm ?_; refine tv (o_bS (l := [_, _, _, _]) (pv_cons (by conv => lhs; whnf) (pv_cons (by conv => lhs; whnf) (pv_cons (by conv => lhs; whnf) (pv_cons (by conv => lhs; whnf) pv_nil)))) Tryz.underlying45 z45 (pl45 Tryz.underlying45) rfl) ?_; refine tl_x rfl (o_box rfl rfl) ?_; rintro _ _ ⟨b76, rfl, rfl⟩; refine tla ?_; refine nq ?_; refine tc_seq ?_; refine sr ?_; refine tla ?_; refine nq ?_; refine tc_block ?_; refine tc_pre (A' := F * pt b1 (cl [.slice x.ia x.im.length x.ic, .bool x.far, .int .i64 x.ln, .slice x.sa x.ts.length x.sc] 25) * pt b76 (cl [.pointer (some ⟨d25, 0, none⟩), .pointer (some ⟨b51, 0, none⟩), .pointer (some ⟨d30, 0, none⟩), .pointer (some ⟨b58, 0, none⟩)] 45) * pt b51 (cl (lcs11 d25 at_ sz) 94) * pt b58 (cl (lcs11 d30 at_ sz) 96) * Dev d25 (fromS n I) * RDev d30 (fromS n I)) (fun g w h => (Dr.sat (A' := F * pt b1 (cl [.slice x.ia x.im.length x.ic, .bool x.far, .int .i64 x.ln, .slice x.sa x.ts.length x.sc] 25) * Dev d25 (fromS n I) * RDev d30 (fromS n I) * pt b51 (cl (lcs11 d25 at_ sz) 94) * pt b58 (cl (lcs11 d30 at_ sz) 96) * pt b76 (cl [.pointer (some ⟨d25, 0, none⟩), .pointer (some ⟨b51, 0, none⟩), .pointer (some ⟨d30, 0, none⟩), .pointer (some ⟨b58, 0, none⟩)] 45)) drqz g w h).perm (by ac_rfl)) ?_
                refine tc_loop (fun kk ρ BB => ∃ (i : Nat) (s1 : DevS), (i ≤ x.ts.length) ∧ (s1.ls.length = n) ∧ (Room (wS x.ts i + 1000) s1) ∧ kk = x.ts.length - i ∧ ρ 15 = .int .i64 (i : Nat) ∧ ρ 1 = .pointer (some ⟨b1, 0, none⟩) ∧ ρ 4 = .int .i64 (at_ : Nat) ∧ ρ 6 = .pointer (some ⟨d25, 0, none⟩) ∧ ρ 8 = .pointer (some ⟨d30, 0, none⟩) ∧ ρ 14 = .pointer (some ⟨b76, 0, none⟩) ∧ Dr BB (F * pt b1 (cl [.slice x.ia x.im.length x.ic, .bool x.far, .int .i64 x.ln, .slice x.sa x.ts.length x.sc] 25) * pt b76 (cl [.pointer (some ⟨d25, 0, none⟩), .pointer (some ⟨b51, 0, none⟩), .pointer (some ⟨d30, 0, none⟩), .pointer (some ⟨b58, 0, none⟩)] 45) * pt b51 (cl (lcs11 d25 at_ sz) 94) * pt b58 (cl (lcs11 d30 at_ sz) 96) * Dev d25 s1 * RDev d30 s1)) (m := x.ts.length - (0)) ?_ ?_
                · exact ⟨0, fromS n I, by omega, hl9, room_fromB oqz, rfl, rfl, rfl, rfl, rfl, rfl, rfl, drqz⟩
                · intro k ρ B hI
                  obtain ⟨i, s1, hp0, hp1, hp2, hkk1, hE15, hE1, hE4, hE6, hE8, hE14, hBA⟩ := hI
                  refine tc_pre hBA.sat ?_
                  clear hBA
                  refine tc_env (d := 15) hE15 ?_; refine tc_env (d := 1) hE1 ?_; refine tc_env (d := 4) hE4 ?_; refine tc_env (d := 6) hE6 ?_; refine tc_env (d := 8) hE8 ?_; refine tc_env (d := 14) hE14 ?_
                  clear hE15 hE1 hE4 hE6 hE8 hE14
                  refine tc_seq ?_; refine sr ?_; refine tlm ?_; refine tv (o_fieldAddr (o := 3) Tryz.underlying25 rfl rfl sz23 rfl) ?_; refine tv (by first | exact o_load p23 rfl hsqz rfl | exact o_loadC p23 rfl (by assumption)) ?_; refine tv (o_len Tryz.underlying23 rfl) ?_; refine tv (o_lss rfl rfl) ?_; refine nq ?_; refine tc_cond rfl (fun h => ?_) (fun h => ?_)
                  · have hi : i < x.ts.length := by simp at h; omega
                    have hwa := wS_at hi
                    have hts := wS_sz (List.getElem_mem hi)
                    refine tc_skip ?_; refine q_then_n ?_; refine tc_seq ?_; refine tc_block ?_; refine tc_seq ?_; refine tc_regh (S := F * pt b1 (cl [.slice x.ia x.im.length x.ic, .bool x.far, .int .i64 x.ln, .slice x.sa x.ts.length x.sc] 25)) mo drqz ?_
                    show TH _ _ _ _ _ 27 #[ff,ff,ff,ff,ff,ff,ff,ff,ff,ff,ff,ff,ff,ff,ff,ff,ff,ff,ff,ff,ff,ff,ff,ff,ff,ff,ff] _ _
                    refine th_take (i := 0) (listed' := #[tt,ff,ff,ff,ff,ff,ff,ff,ff,ff,ff,ff,ff,ff,ff,ff,ff,ff,ff,ff,ff,ff,ff,ff,ff,ff,ff]) rfl kqz kqz kqz rfl rfl (o_move (by conv => lhs; whnf)) ?_; refine th_take (i := 1) (listed' := #[tt,tt,ff,ff,ff,ff,ff,ff,ff,ff,ff,ff,ff,ff,ff,ff,ff,ff,ff,ff,ff,ff,ff,ff,ff,ff,ff]) rfl kqz kqz kqz rfl rfl (o_fieldAddr (o := 3) Tryz.underlying25 rfl rfl sz23 rfl) ?_; refine th_take (i := 2) (listed' := #[tt,tt,tt,ff,ff,ff,ff,ff,ff,ff,ff,ff,ff,ff,ff,ff,ff,ff,ff,ff,ff,ff,ff,ff,ff,ff,ff]) rfl kqz kqz kqz rfl rfl (by first | exact o_load p23 rfl hsqz rfl | exact o_loadC p23 rfl (by assumption)) ?_; refine th_take (i := 3) (listed' := #[tt,tt,tt,tt,ff,ff,ff,ff,ff,ff,ff,ff,ff,ff,ff,ff,ff,ff,ff,ff,ff,ff,ff,ff,ff,ff,ff]) rfl kqz kqz kqz rfl rfl (o_move (by conv => lhs; whnf)) ?_; refine th_take (i := 4) (listed' := #[tt,tt,tt,tt,tt,ff,ff,ff,ff,ff,ff,ff,ff,ff,ff,ff,ff,ff,ff,ff,ff,ff,ff,ff,ff,ff,ff]) rfl kqz kqz kqz rfl rfl (o_ixP Tryz.underlying23 sz50 rfl rfl oqz (by repeat (first | exact nn_rs hsr (fun _ => by rw [tcs_len]; omega) | apply Nn.left))) ?_; refine th_take (i := 5) (listed' := #[tt,tt,tt,tt,tt,tt,ff,ff,ff,ff,ff,ff,ff,ff,ff,ff,ff,ff,ff,ff,ff,ff,ff,ff,ff,ff,ff]) rfl kqz kqz kqz rfl rfl (o_ldPN (vs := x.ts[i].cells) a50 sz50 rfl (by repeat (first | exact hsr | apply Rs.left)) (tcs_at hi) rfl (by decide)) ?_
                    refine th_take (i := 6) (listed' := #[tt,tt,tt,tt,tt,tt,tt,ff,ff,ff,ff,ff,ff,ff,ff,ff,ff,ff,ff,ff,ff,ff,ff,ff,ff,ff,ff]) rfl kqz kqz kqz rfl rfl (o_move (by conv => lhs; whnf)) ?_; refine th_one (i := 7) kqz ?_; refine oh_c (i := 7) (listed' := #[tt,tt,tt,tt,tt,tt,tt,tt,ff,ff,ff,ff,ff,ff,ff,ff,ff,ff,ff,ff,ff,ff,ff,ff,ff,ff,ff]) rfl rfl rfl (o_call bd11 rfl (step11_c (F := F * pt b1 (cl [.slice x.ia x.im.length x.ic, .bool x.far, .int .i64 x.ln, .slice x.sa x.ts.length x.sc] 25)) (s := s1) (t := x.ts[i]) (k := wS x.ts (i + 1) + 1000) (hA := by first | rfl | ac_rfl) (hw := by repeat (first | exact hw.st _ (List.getElem_mem hi) | apply StUW.left)) (hlw := by rw [hp1]; exact hlw) (hroom := room_le hp2 oqz) (hsz := by omega))) ?_; rintro _ _ ⟨s91, rfl, hln91, hrm91, rfl⟩; refine ⟨by repeat (first | with_reducible exact dr_refl | apply dr_keep | apply dr_drop), ?_⟩; refine th_take (i := 8) (listed' := #[tt,tt,tt,tt,tt,tt,tt,tt,tt,ff,ff,ff,ff,ff,ff,ff,ff,ff,ff,ff,ff,ff,ff,ff,ff,ff,ff]) rfl kqz kqz kqz rfl rfl (o_not rfl) ?_; refine th_take (i := 9) (listed' := #[tt,tt,tt,tt,tt,tt,tt,tt,tt,tt,ff,ff,ff,ff,ff,ff,ff,ff,ff,ff,ff,ff,ff,ff,ff,ff,ff]) rfl kqz kqz kqz rfl rfl (o_move (by conv => lhs; whnf)) ?_; refine th_bool (d := 93) rfl (fun h => ?_) (fun h => ?_)
                    · exfalso; simp at h
                    · try simp only [lv1, lv2, lv3, lv4, lv5, lv6, Bool.not_true, Bool.not_false] at h
                      refine th_take (i := 10) (listed' := #[tt,tt,tt,tt,tt,tt,tt,tt,tt,tt,tt,ff,ff,ff,ff,ff,ff,ff,ff,ff,ff,ff,ff,ff,ff,ff,ff]) rfl kqz kqz kqz rfl rfl (o_move (by conv => lhs; whnf)) ?_; refine th_take (i := 12) (listed' := #[tt,tt,tt,tt,tt,tt,tt,tt,tt,tt,tt,ff,tt,ff,ff,ff,ff,ff,ff,ff,ff,ff,ff,ff,ff,ff,ff]) rfl kqz kqz kqz rfl rfl (o_move (by conv => lhs; whnf)) ?_; refine th_take (i := 13) (listed' := #[tt,tt,tt,tt,tt,tt,tt,tt,tt,tt,tt,ff,tt,tt,ff,ff,ff,ff,ff,ff,ff,ff,ff,ff,ff,ff,ff]) rfl kqz kqz kqz rfl rfl (o_nilCheck rfl) ?_; refine th_take (i := 14) (listed' := #[tt,tt,tt,tt,tt,tt,tt,tt,tt,tt,tt,ff,tt,tt,tt,ff,ff,ff,ff,ff,ff,ff,ff,ff,ff,ff,ff]) rfl kqz kqz kqz rfl rfl (o_fieldAddr (o := 2) Tryz.underlying55 rfl rfl sz3 rfl) ?_; refine th_two (i := 11) (j := 15) kqz ?_ ?_
                      · skip
                        refine oh_c (i := 11) (listed' := #[tt,tt,tt,tt,tt,tt,tt,tt,tt,tt,tt,tt,tt,tt,tt,ff,ff,ff,ff,ff,ff,ff,ff,ff,ff,ff,ff]) rfl rfl rfl (o_call bd12 rfl (Ops_c)) ?_; rintro _ _ ⟨rfl, rfl⟩; refine ⟨by repeat (first | with_reducible exact dr_refl | apply dr_keep | apply dr_drop), ?_⟩; refine th_one (i := 15) kqz ?_; refine oh_v (i := 15) (listed' := #[tt,tt,tt,tt,tt,tt,tt,tt,tt,tt,tt,tt,tt,tt,tt,tt,ff,ff,ff,ff,ff,ff,ff,ff,ff,ff,ff]) rfl rfl rfl (o_loadC (b := d30) p3 rfl (by repeat (first | exact cellR2 | apply Cell.left))) ?_; refine th_take (i := 16) (listed' := #[tt,tt,tt,tt,tt,tt,tt,tt,tt,tt,tt,tt,tt,tt,tt,tt,tt,ff,ff,ff,ff,ff,ff,ff,ff,ff,ff]) rfl kqz kqz kqz rfl rfl (o_nei rfl rfl) ?_; refine th_env (d := 100) (v := .bool false) (by first | (show Value.bool (decide (_ ≠ _)) = _; simp) | (show Value.bool (!decide (_ = _)) = _; simp)) ?_; refine th_take (i := 17) (listed' := #[tt,tt,tt,tt,tt,tt,tt,tt,tt,tt,tt,tt,tt,tt,tt,tt,tt,tt,ff,ff,ff,ff,ff,ff,ff,ff,ff]) rfl kqz kqz kqz rfl rfl (o_pick_f rfl (by conv => lhs; whnf)) ?_; refine th_take (i := 18) (listed' := #[tt,tt,tt,tt,tt,tt,tt,tt,tt,tt,tt,tt,tt,tt,tt,tt,tt,tt,tt,ff,ff,ff,ff,ff,ff,ff,ff]) rfl kqz kqz kqz rfl rfl (o_move (by conv => lhs; whnf)) ?_
                        refine th_bool (d := 102) rfl (fun h => ?_) (fun h => ?_)
                        · exfalso; simp at h
                        · try simp only [lv1, lv2, lv3, lv4, lv5, lv6, Bool.not_true, Bool.not_false] at h
                          refine th_take (i := 19) (listed' := #[tt,tt,tt,tt,tt,tt,tt,tt,tt,tt,tt,tt,tt,tt,tt,tt,tt,tt,tt,tt,ff,ff,ff,ff,ff,ff,ff]) rfl kqz kqz kqz rfl rfl (o_move (by conv => lhs; whnf)) ?_; refine th_take (i := 21) (listed' := #[tt,tt,tt,tt,tt,tt,tt,tt,tt,tt,tt,tt,tt,tt,tt,tt,tt,tt,tt,tt,ff,tt,ff,ff,ff,ff,ff]) rfl kqz kqz kqz rfl rfl (o_move (by conv => lhs; whnf)) ?_; refine th_take (i := 22) (listed' := #[tt,tt,tt,tt,tt,tt,tt,tt,tt,tt,tt,tt,tt,tt,tt,tt,tt,tt,tt,tt,ff,tt,tt,ff,ff,ff,ff]) rfl kqz kqz kqz rfl rfl (o_nilCheck rfl) ?_; refine th_take (i := 23) (listed' := #[tt,tt,tt,tt,tt,tt,tt,tt,tt,tt,tt,tt,tt,tt,tt,tt,tt,tt,tt,tt,ff,tt,tt,tt,ff,ff,ff]) rfl kqz kqz kqz rfl rfl (o_fieldAddr (o := 5) Tryz.underlying55 rfl rfl sz4 rfl) ?_; refine th_two (i := 20) (j := 24) kqz ?_ ?_
                          · skip
                            refine oh_c (i := 20) (listed' := #[tt,tt,tt,tt,tt,tt,tt,tt,tt,tt,tt,tt,tt,tt,tt,tt,tt,tt,tt,tt,tt,tt,tt,tt,ff,ff,ff]) rfl rfl rfl (o_call bd13 rfl (Off_c)) ?_; rintro _ _ ⟨rfl, rfl⟩; refine ⟨by repeat (first | with_reducible exact dr_refl | apply dr_keep | apply dr_drop), ?_⟩; refine th_one (i := 24) kqz ?_; refine oh_v (i := 24) (listed' := #[tt,tt,tt,tt,tt,tt,tt,tt,tt,tt,tt,tt,tt,tt,tt,tt,tt,tt,tt,tt,tt,tt,tt,tt,tt,ff,ff]) rfl rfl rfl (o_loadC (b := d30) p4 rfl (by repeat (first | exact cellR5 | apply Cell.left))) ?_; refine th_take (i := 25) (listed' := #[tt,tt,tt,tt,tt,tt,tt,tt,tt,tt,tt,tt,tt,tt,tt,tt,tt,tt,tt,tt,tt,tt,tt,tt,tt,tt,ff]) rfl kqz kqz kqz rfl rfl (o_neb Tryz.underlying4 rfl rfl) ?_; refine th_env (d := 109) (v := .bool false) (by first | (show Value.bool (_ != _) = _; simp) | (show Value.bool (!decide (_ = _)) = _; simp)) ?_; refine th_take (i := 26) (listed' := #[tt,tt,tt,tt,tt,tt,tt,tt,tt,tt,tt,tt,tt,tt,tt,tt,tt,tt,tt,tt,tt,tt,tt,tt,tt,tt,tt]) rfl kqz kqz kqz rfl rfl (o_pick_f rfl (by conv => lhs; whnf)) ?_; refine th_done kqz ?_; refine q_then_n ?_; refine tc_cond rfl (fun h => ?_) (fun h => ?_)
                            · exfalso; simp at h
                            · try simp only [lv1, lv2, lv3, lv4, lv5, lv6, Bool.not_true, Bool.not_false] at h
                              refine tc_skip ?_; refine q_block_n (q_then_n ?_); refine tc_reg ?_; refine tlm ?_; refine tv adqz ?_; refine tla ?_; refine nq ?_; exact ⟨_, by omega, i + 1, _, by omega, hln91.trans hp1, hrm91, rfl, rfl, rfl, rfl, rfl, rfl, rfl, drqz⟩
                          · skip
                            refine oh_v (i := 24) (listed' := #[tt,tt,tt,tt,tt,tt,tt,tt,tt,tt,tt,tt,tt,tt,tt,tt,tt,tt,tt,tt,ff,tt,tt,tt,tt,ff,ff]) rfl rfl rfl (o_loadC (b := d30) p4 rfl (by repeat (first | exact cellR5 | apply Cell.left))) ?_; refine th_one (i := 20) kqz ?_; refine oh_c (i := 20) (listed' := #[tt,tt,tt,tt,tt,tt,tt,tt,tt,tt,tt,tt,tt,tt,tt,tt,tt,tt,tt,tt,tt,tt,tt,tt,tt,ff,ff]) rfl rfl rfl (o_call bd13 rfl (Off_c)) ?_; rintro _ _ ⟨rfl, rfl⟩; refine ⟨by repeat (first | with_reducible exact dr_refl | apply dr_keep | apply dr_drop), ?_⟩; refine th_take (i := 25) (listed' := #[tt,tt,tt,tt,tt,tt,tt,tt,tt,tt,tt,tt,tt,tt,tt,tt,tt,tt,tt,tt,tt,tt,tt,tt,tt,tt,ff]) rfl kqz kqz kqz rfl rfl (o_neb Tryz.underlying4 rfl rfl) ?_; refine th_env (d := 109) (v := .bool false) (by first | (show Value.bool (_ != _) = _; simp) | (show Value.bool (!decide (_ = _)) = _; simp)) ?_; refine th_take (i := 26) (listed' := #[tt,tt,tt,tt,tt,tt,tt,tt,tt,tt,tt,tt,tt,tt,tt,tt,tt,tt,tt,tt,tt,tt,tt,tt,tt,tt,tt]) rfl kqz kqz kqz rfl rfl (o_pick_f rfl (by conv => lhs; whnf)) ?_; refine th_done kqz ?_; refine q_then_n ?_; refine tc_cond rfl (fun h => ?_) (fun h => ?_)
                            · exfalso; simp at h
                            · try simp only [lv1, lv2, lv3, lv4, lv5, lv6, Bool.not_true, Bool.not_false] at h
                              refine tc_skip ?_; refine q_block_n (q_then_n ?_); refine tc_reg ?_; refine tlm ?_; refine tv adqz ?_; refine tla ?_; refine nq ?_; exact ⟨_, by omega, i + 1, _, by omega, hln91.trans hp1, hrm91, rfl, rfl, rfl, rfl, rfl, rfl, rfl, drqz⟩
                      · skip
                        refine oh_v (i := 15) (listed' := #[tt,tt,tt,tt,tt,tt,tt,tt,tt,tt,tt,ff,tt,tt,tt,tt,ff,ff,ff,ff,ff,ff,ff,ff,ff,ff,ff]) rfl rfl rfl (o_loadC (b := d30) p3 rfl (by repeat (first | exact cellR2 | apply Cell.left))) ?_; refine th_one (i := 11) kqz ?_; refine oh_c (i := 11) (listed' := #[tt,tt,tt,tt,tt,tt,tt,tt,tt,tt,tt,tt,tt,tt,tt,tt,ff,ff,ff,ff,ff,ff,ff,ff,ff,ff,ff]) rfl rfl rfl (o_call bd12 rfl (Ops_c)) ?_; rintro _ _ ⟨rfl, rfl⟩; refine ⟨by repeat (first | with_reducible exact dr_refl | apply dr_keep | apply dr_drop), ?_⟩; refine th_take (i := 16) (listed' := #[tt,tt,tt,tt,tt,tt,tt,tt,tt,tt,tt,tt,tt,tt,tt,tt,tt,ff,ff,ff,ff,ff,ff,ff,ff,ff,ff]) rfl kqz kqz kqz rfl rfl (o_nei rfl rfl) ?_; refine th_env (d := 100) (v := .bool false) (by first | (show Value.bool (decide (_ ≠ _)) = _; simp) | (show Value.bool (!decide (_ = _)) = _; simp)) ?_; refine th_take (i := 17) (listed' := #[tt,tt,tt,tt,tt,tt,tt,tt,tt,tt,tt,tt,tt,tt,tt,tt,tt,tt,ff,ff,ff,ff,ff,ff,ff,ff,ff]) rfl kqz kqz kqz rfl rfl (o_pick_f rfl (by conv => lhs; whnf)) ?_; refine th_take (i := 18) (listed' := #[tt,tt,tt,tt,tt,tt,tt,tt,tt,tt,tt,tt,tt,tt,tt,tt,tt,tt,tt,ff,ff,ff,ff,ff,ff,ff,ff]) rfl kqz kqz kqz rfl rfl (o_move (by conv => lhs; whnf)) ?_
                        refine th_bool (d := 102) rfl (fun h => ?_) (fun h => ?_)
                        · exfalso; simp at h
                        · try simp only [lv1, lv2, lv3, lv4, lv5, lv6, Bool.not_true, Bool.not_false] at h
                          refine th_take (i := 19) (listed' := #[tt,tt,tt,tt,tt,tt,tt,tt,tt,tt,tt,tt,tt,tt,tt,tt,tt,tt,tt,tt,ff,ff,ff,ff,ff,ff,ff]) rfl kqz kqz kqz rfl rfl (o_move (by conv => lhs; whnf)) ?_; refine th_take (i := 21) (listed' := #[tt,tt,tt,tt,tt,tt,tt,tt,tt,tt,tt,tt,tt,tt,tt,tt,tt,tt,tt,tt,ff,tt,ff,ff,ff,ff,ff]) rfl kqz kqz kqz rfl rfl (o_move (by conv => lhs; whnf)) ?_; refine th_take (i := 22) (listed' := #[tt,tt,tt,tt,tt,tt,tt,tt,tt,tt,tt,tt,tt,tt,tt,tt,tt,tt,tt,tt,ff,tt,tt,ff,ff,ff,ff]) rfl kqz kqz kqz rfl rfl (o_nilCheck rfl) ?_; refine th_take (i := 23) (listed' := #[tt,tt,tt,tt,tt,tt,tt,tt,tt,tt,tt,tt,tt,tt,tt,tt,tt,tt,tt,tt,ff,tt,tt,tt,ff,ff,ff]) rfl kqz kqz kqz rfl rfl (o_fieldAddr (o := 5) Tryz.underlying55 rfl rfl sz4 rfl) ?_; refine th_two (i := 20) (j := 24) kqz ?_ ?_
                          · skip
                            refine oh_c (i := 20) (listed' := #[tt,tt,tt,tt,tt,tt,tt,tt,tt,tt,tt,tt,tt,tt,tt,tt,tt,tt,tt,tt,tt,tt,tt,tt,ff,ff,ff]) rfl rfl rfl (o_call bd13 rfl (Off_c)) ?_; rintro _ _ ⟨rfl, rfl⟩; refine ⟨by repeat (first | with_reducible exact dr_refl | apply dr_keep | apply dr_drop), ?_⟩; refine th_one (i := 24) kqz ?_; refine oh_v (i := 24) (listed' := #[tt,tt,tt,tt,tt,tt,tt,tt,tt,tt,tt,tt,tt,tt,tt,tt,tt,tt,tt,tt,tt,tt,tt,tt,tt,ff,ff]) rfl rfl rfl (o_loadC (b := d30) p4 rfl (by repeat (first | exact cellR5 | apply Cell.left))) ?_; refine th_take (i := 25) (listed' := #[tt,tt,tt,tt,tt,tt,tt,tt,tt,tt,tt,tt,tt,tt,tt,tt,tt,tt,tt,tt,tt,tt,tt,tt,tt,tt,ff]) rfl kqz kqz kqz rfl rfl (o_neb Tryz.underlying4 rfl rfl) ?_; refine th_env (d := 109) (v := .bool false) (by first | (show Value.bool (_ != _) = _; simp) | (show Value.bool (!decide (_ = _)) = _; simp)) ?_; refine th_take (i := 26) (listed' := #[tt,tt,tt,tt,tt,tt,tt,tt,tt,tt,tt,tt,tt,tt,tt,tt,tt,tt,tt,tt,tt,tt,tt,tt,tt,tt,tt]) rfl kqz kqz kqz rfl rfl (o_pick_f rfl (by conv => lhs; whnf)) ?_; refine th_done kqz ?_; refine q_then_n ?_; refine tc_cond rfl (fun h => ?_) (fun h => ?_)
                            · exfalso; simp at h
                            · try simp only [lv1, lv2, lv3, lv4, lv5, lv6, Bool.not_true, Bool.not_false] at h
                              refine tc_skip ?_; refine q_block_n (q_then_n ?_); refine tc_reg ?_; refine tlm ?_; refine tv adqz ?_; refine tla ?_; refine nq ?_; exact ⟨_, by omega, i + 1, _, by omega, hln91.trans hp1, hrm91, rfl, rfl, rfl, rfl, rfl, rfl, rfl, drqz⟩
                          · skip
                            refine oh_v (i := 24) (listed' := #[tt,tt,tt,tt,tt,tt,tt,tt,tt,tt,tt,tt,tt,tt,tt,tt,tt,tt,tt,tt,ff,tt,tt,tt,tt,ff,ff]) rfl rfl rfl (o_loadC (b := d30) p4 rfl (by repeat (first | exact cellR5 | apply Cell.left))) ?_; refine th_one (i := 20) kqz ?_; refine oh_c (i := 20) (listed' := #[tt,tt,tt,tt,tt,tt,tt,tt,tt,tt,tt,tt,tt,tt,tt,tt,tt,tt,tt,tt,tt,tt,tt,tt,tt,ff,ff]) rfl rfl rfl (o_call bd13 rfl (Off_c)) ?_; rintro _ _ ⟨rfl, rfl⟩; refine ⟨by repeat (first | with_reducible exact dr_refl | apply dr_keep | apply dr_drop), ?_⟩; refine th_take (i := 25) (listed' := #[tt,tt,tt,tt,tt,tt,tt,tt,tt,tt,tt,tt,tt,tt,tt,tt,tt,tt,tt,tt,tt,tt,tt,tt,tt,tt,ff]) rfl kqz kqz kqz rfl rfl (o_neb Tryz.underlying4 rfl rfl) ?_; refine th_env (d := 109) (v := .bool false) (by first | (show Value.bool (_ != _) = _; simp) | (show Value.bool (!decide (_ = _)) = _; simp)) ?_; refine th_take (i := 26) (listed' := #[tt,tt,tt,tt,tt,tt,tt,tt,tt,tt,tt,tt,tt,tt,tt,tt,tt,tt,tt,tt,tt,tt,tt,tt,tt,tt,tt]) rfl kqz kqz kqz rfl rfl (o_pick_f rfl (by conv => lhs; whnf)) ?_; refine th_done kqz ?_; refine q_then_n ?_; refine tc_cond rfl (fun h => ?_) (fun h => ?_)
                            · exfalso; simp at h
                            · try simp only [lv1, lv2, lv3, lv4, lv5, lv6, Bool.not_true, Bool.not_false] at h
                              refine tc_skip ?_; refine q_block_n (q_then_n ?_); refine tc_reg ?_; refine tlm ?_; refine tv adqz ?_; refine tla ?_; refine nq ?_; exact ⟨_, by omega, i + 1, _, by omega, hln91.trans hp1, hrm91, rfl, rfl, rfl, rfl, rfl, rfl, rfl, drqz⟩
                  · obtain rfl : i = x.ts.length := by simp at h; omega
                    refine tc_exit ?_; refine q_then_e (q_then_e (q_block_x (q_then_n ?_))); refine sr ?_; refine tlm ?_; refine tv (o_bS (l := [_, _, _, _, _, _]) (pv_cons (by conv => lhs; whnf) pv_nil) Tryz.underlying50 z50 (pl50 Tryz.underlying50) rfl) ?_; refine tlm ?_; refine tl_c rfl (o_call bd11 rfl (step11_c (F := F * pt b1 (cl [.slice x.ia x.im.length x.ic, .bool x.far, .int .i64 x.ln, .slice x.sa x.ts.length x.sc] 25)) (s := s1) (t := tzU) (k := 0) (hA := by first | rfl | ac_rfl) (hw := tzU_w) (hlw := by rw [hp1]; exact hlw) (hroom := room_le hp2 (by show sz + 1 + (0 + 0) + 1 ≤ _; omega)) (hsz := by decide))) ?_; rintro _ _ ⟨s91, rfl, hln91, hrm91, rfl⟩; refine tl_have (fun _ _ h => wfR_ct ctqz h) fun hw9 => ?_; refine tlm ?_; refine tl_bool (d := 115) rfl (fun h => ?_) (fun h => ?_)
                    · try simp only [lv1, lv2, lv3, lv4, lv5, lv6, Bool.not_true, Bool.not_false] at h
                      refine tlm ?_; refine tl_c rfl (o_call bd15 rfl (Image_c (s := s91))) ?_; rintro _ _ ⟨a117, c117, rfl, hc117, rfl⟩; refine tlm ?_; refine tl_c rfl (o_call bd16 rfl (rImage_c (s := s91))) ?_; rintro _ _ ⟨a119, c119, rfl, hc119, rfl⟩; refine tl_c rfl (o_call bd14 rfl (EqBytes_c (xs := imgS s91) (ys := imgS s91) (hx := imgS_len hw9) (hy := imgS_len hw9))) ?_; rintro _ _ ⟨rfl, rfl⟩; refine tl_env (d := 120) (v := .bool true) (by show Value.bool (decide (imgS s91 = imgS s91)) = _; simp) ?_; refine tv (o_pick_t rfl (by conv => lhs; whnf)) ?_; refine tla ?_; refine nq ?_; refine tc_ret ?_; exact ⟨.bool true, F, res1 rfl rfl, Dr.sat drqz, rfl, rfl⟩
                    · exfalso; simp at h
theorem six_ofU {α : Type} : ∀ {l : List α}, l.length = 6 → ∃ a b c d e f, l = [a, b, c, d, e, f]
  | [a, b, c, d, e, f], _ => ⟨a, b, c, d, e, f, rfl⟩
set_option maxRecDepth 20000 in
theorem rdu_stepU (W : World) : Rdu Tryz.prog W 50 (fun cs (t : StU) => cs = t.cells ∧ StUW (old W) t) StU.sz := fun H enc sp hd fu cs d pl h => by
  obtain ⟨hl, Ds, hD, hs, hf⟩ := rdu_fields Tryz.underlying50 h
  have hc : Tryz.prog.cellsOf 50 = 6 := by kernel_rfl
  have hci : Tryz.prog.cellsOf 3 = 1 := by kernel_rfl
  have hce : Tryz.prog.cellsOf 47 = 1 := by kernel_rfl
  have hcb : Tryz.prog.cellsOf 22 = 1 := by kernel_rfl
  have hck : Tryz.prog.cellsOf 48 = 1 := by kernel_rfl
  rw [hc] at hl
  obtain ⟨k, D0, _, ⟨e0, w0⟩, _⟩ := hf 0 _ rfl (rdu_int Tryz.underlying3)
  obtain ⟨q, D1, _, ⟨e1, w1⟩, _⟩ := hf 1 _ rfl (rdu_int Tryz.underlying3)
  obtain ⟨n, D2, _, ⟨e2, w2⟩, _⟩ := hf 2 _ rfl (rdu_int Tryz.underlying3)
  obtain ⟨es, D3, h3, ⟨a3, c3, e3, g3, r3, l3⟩, s3⟩ := hf 3 _ rfl (rdu_xts W)
  obtain ⟨b, D4, h4, ⟨a4, c4, e4, g4, r4, l4⟩, s4⟩ := hf 4 _ rfl (rdu_bys Tryz.underlying22 Tryz.underlying5 kqz)
  obtain ⟨kp, D5, h5, ⟨a5, c5, e5, g5, r5, l5⟩, s5⟩ := hf 5 _ rfl (rdu_ints Tryz.underlying48 Tryz.underlying3 kqz)
  obtain ⟨d0, d1, d2, d3, d4, d5, rfl⟩ := six_ofU (show Ds.length = 6 from hD)
  obtain ⟨c0, c1, c2, c3', c4', c5', rfl⟩ := six_ofU hl
  simp only [List.getElem?_cons_succ, List.getElem?_cons_zero, Option.some.injEq] at h3 h4 h5
  subst h3 h4 h5
  simp only [ubs_cons, ubs_nil] at hs
  simp [hci] at e0 e1 e2
  simp [hce] at e3
  simp [hcb] at e4
  simp [hck] at e5
  subst e0 e1 e2 e3 e4 e5
  exact ⟨⟨k, q, n, a3, c3, es, a4, c4, b, a5, c5, kp⟩, ⟨rfl, ⟨i64_wf w0, i64_wf w1, i64_wf w2, r3, l3, g4, r4, l4, g5, r5, l5⟩⟩, by unfold StU.sz; simp only []; omega⟩
def PStUl (A : SP) (cs : List Value) (ts : List StU) : Prop := ∃ a cap, cs = [.slice a ts.length cap] ∧ ts.length ≤ cap ∧ Rs A a (tcs ts) ∧ ∀ t ∈ ts, StUW A t
theorem rdu_stepsU (W : World) : Rdu Tryz.prog W 23 (PStUl (old W)) (fun ts => (ts.map StU.sz).sum + 1) :=
  (rdu_slice (k := 6) Tryz.underlying23 kqz (by decide) (rdu_stepU W)).mono fun cs ts ⟨a, cap, Cs, e1, hc, hl, hx, hr⟩ => by
    refine ⟨ts, ⟨a, cap, e1, hc, ?_, fun t ht => ?_⟩, Nat.le_of_eq rfl⟩
    · rw [show tcs ts = Cs.flatten from (flatG hl (fun i h h' => (hx i h h').2.1)).symm]; exact hr
    · obtain ⟨i, hi, rfl⟩ := List.mem_iff_getElem.1 ht
      exact (hx i hi oqz).2.2
set_option maxRecDepth 20000 in
theorem rdu_worldU (W : World) : Rdu Tryz.prog W 25 (fun cs (t : WoU) => cs = t.cells ∧ WoUW (old W) t) WoU.sz := fun H enc sp hd fu cs d pl h => by
  obtain ⟨hl, Ds, hD, hs, hf⟩ := rdu_fields Tryz.underlying25 h
  have hc : Tryz.prog.cellsOf 25 = 4 := by kernel_rfl
  have hcb : Tryz.prog.cellsOf 22 = 1 := by kernel_rfl
  have hcl : Tryz.prog.cellsOf 4 = 1 := by kernel_rfl
  have hci : Tryz.prog.cellsOf 3 = 1 := by kernel_rfl
  have hcs : Tryz.prog.cellsOf 23 = 1 := by kernel_rfl
  rw [hc] at hl
  obtain ⟨im, D0, h0, ⟨a0, c0, e0, g0, r0, l0⟩, s0⟩ := hf 0 _ rfl (rdu_bys Tryz.underlying22 Tryz.underlying5 kqz)
  obtain ⟨far, D1, _, e1, _⟩ := hf 1 _ rfl (rdu_bool Tryz.underlying4)
  obtain ⟨ln, D2, _, ⟨e2, w2⟩, _⟩ := hf 2 _ rfl (rdu_int Tryz.underlying3)
  obtain ⟨ts, D3, h3, ⟨a3, c3, e3, g3, r3, l3⟩, s3⟩ := hf 3 _ rfl (rdu_stepsU W)
  obtain ⟨d0, d1, d2, d3, rfl⟩ := four_ofG (show Ds.length = 4 from hD)
  obtain ⟨k0, k1, k2, k3, rfl⟩ := four_ofG hl
  simp only [List.getElem?_cons_succ, List.getElem?_cons_zero, Option.some.injEq] at h0 h3
  subst h0 h3
  simp only [ubs_cons, ubs_nil] at hs
  simp [hcb] at e0
  simp [PBool, hcl] at e1
  simp [hci] at e2
  simp [hcs] at e3
  subst e0 e1 e2 e3
  exact ⟨⟨a0, c0, im, far, ln, a3, c3, ts⟩, ⟨rfl, ⟨g0, r0, l0, i64_wf w2, g3, r3, l3⟩⟩, by unfold WoU.sz; simp only []; omega⟩
theorem UlogPlays_L (F : SP) (cs : Array Value) (x : WoU) (h : cs.toList = x.cells ∧ WoUW F x) (hz : x.sz ≤ 1048576) : Fn Tryz.prog 3 #[.agg cs] F (fun r B => r = .bool true ∧ B = F) := by
  obtain ⟨e, hw⟩ := h
  obtain rfl : cs = #[.slice x.ia x.im.length x.ic, .bool x.far, .int .i64 x.ln, .slice x.sa x.ts.length x.sc] := Array.ext' e
  exact UlogPlays_f hw hz
end Go.Vl
