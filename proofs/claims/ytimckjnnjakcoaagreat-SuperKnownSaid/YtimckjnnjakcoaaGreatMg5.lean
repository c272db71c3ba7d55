/- What the row rests on, part 5: a calculus of assertions, walks of functions over it, and plain laws. Conditions: none. -/
import Derived.Deep.QuietTactic
import Derived.BigQuiet
import Derived.WalkKit
import Derived.Test.YtimckjnnjakcoaaGreatProg
import Derived.OrdersHeld
import Derived.Laws.BytesArg
import Derived.RangeFuncRecord
import Derived.TacticsIn
import Derived.Deep.Slices
import Derived.OpenShut
import Derived.ChangeArms
import Derived.SizedLaws
import Derived.ChangeSame
import Derived.Test.YtimckjnnjakcoaaGreatRows
import Derived.Test.YtimckjnnjakcoaaGreatMg4
set_option linter.unusedVariables false
set_option linter.unusedSimpArgs false
namespace Go.Vl
open Go Go.Proofs
theorem stW_min {p n : Nat} {b : List Nat} {s : DevS} (h : n = min b.length (8 - p % 8)) : stW p (b.take n) s = stW p b s := by
  rcases Nat.le_total b.length (8 - p % 8) with h1 | h1
  · exact stW_take' (by omega)
  · exact stW_take (by omega)
theorem mpF_wf {i : Nat} {s : DevS} (h : WfD s) : WfD { s with ls := mp fenceL i s.ls } := ⟨by simp only [mp_length]; exact h.pos, by simp only [mp_length]; exact h.top, fun l hl => by
  obtain ⟨j, hj, rfl⟩ := List.mem_iff_getElem.1 hl
  simp only [mp, List.getElem_mapIdx]
  rw [mp_length] at hj
  split
  · exact fenceL_wf (h.line _ (List.getElem_mem _))
  · exact h.line _ (List.getElem_mem _), h.arms, h.after, h.keeps⟩
theorem acs_at0 {kvs : List Value} {ars : List (Int × List Int)} {i : Nat} (h : kvs.length = ars.length) (hi : i < ars.length) : (acs kvs ars)[i * 2 + 0]? = some (.int .i64 ars[i].1) := by
  have e := acs_at h hi
  have := congrArg (fun l => l[0]?) e
  simpa [List.getElem?_take, List.getElem?_drop] using this
theorem acs_at1 {kvs : List Value} {ars : List (Int × List Int)} {i : Nat} (h : kvs.length = ars.length) (hi : i < ars.length) : (acs kvs ars)[i * 2 + 1]? = some (kvs[i]'(by omega)) := by
  have e := acs_at h hi
  have := congrArg (fun l => l[1]?) e
  simpa [List.getElem?_take, List.getElem?_drop] using this
theorem rarm_back {F J : SP} {r : Nat} {lv : Value} {rls : List RL} {kvs : List Value} {v av : Value} {x : Int × List Int} {s : DevS} (hw : WfD { s with arms := s.arms ++ [x] }) (hmap : rls.map RL.l = s.ls) (hkv : kvs.length = s.arms.length) {g : Gh} {w : World}
    (hs : sat g w (F * KeepsR kvs s.arms * Bs rlR rls * Sl 2 lv s.ls.length (rls.flatMap rcl) * pt r (cl (rdcs lv s av) 114) * Sl 1 v x.2.length (ints x.2) * Sl 2 av (s.arms.length + 1) (acs kvs s.arms ++ [.int .i64 x.1, v]) * J)) : sat g w (F * RDev r { s with arms := s.arms ++ [x] }) := by
  have h1 := hs.left
  rw [star_swap] at h1
  have h2 := sl_share h1
  refine rdev_back (lv := lv) (rls := rls) (av := av) (kvs := kvs ++ [v]) hw hmap (by simp [hkv]) g w ?_; refine h2.perm ?_
  unfold RDevC ArmsR
  simp only [acs_snoc hkv, keepsR_snoc hkv, List.length_append, List.length_singleton]
  rw [show rdcs lv { s with arms := s.arms ++ [x] } av = rdcs lv s av from rfl]
  ac_rfl
attribute [local irreducible] Sl pt ro imgS
set_option maxRecDepth 20000 in
set_option maxHeartbeats 1000000 in
theorem rStoreW_f (F : SP) {a : Option Addr} {c m r : Nat} {p0 : Int} {s : DevS} {xs : List Nat} (hr : Rs F a (bys xs)) (hm : xs.length = m) (hmc : m ≤ c) (hb : ∀ x ∈ xs, x < 256) (hml : m ≤ 140737488351232) (hp : -9223372036854775808 ≤ p0 ∧ p0 ≤ 9223372036854775807) (hroom : rdy s.ls.length s.off p0 m = 0 → Room m s) :
    Fn Tryz.prog 36 #[.pointer (some ⟨r, 0, none⟩), .int .i64 p0, .slice a m c] (F * RDev r s) (fun v B => v = .int .i64 (sto p0 xs s).1 ∧ B = F * RDev r (sto p0 xs s).2) := by
  refine fn_enterW (args := [.pointer (some ⟨r, 0, none⟩), .int .i64 p0, .slice a m c]) Tryz.func36 rfl Tryz.ntmps36 (by simp) ?_; refine tc_rdev fun hw lv rls av kvs hmap hkv => ?_
  have hpos := hw.pos
  have htop := hw.top
  refine tc_have (fun _ _ h => rdevR_of hw hmap h) fun hR => ?_
  obtain ⟨bl, ol, cl_, rfl, hlc, hll⟩ := hR.lv
  have hlen := hR.len
  
  refine sr ?_; refine tla ?_; refine nq ?_; refine tc_seq ?_; refine sr ?_; refine tlm ?_; refine tv (o_nilCheck rfl) ?_; refine tv (o_fieldAddr (o := 5) Tryz.underlying114 rfl rfl sz4 rfl) ?_; refine tv (o_load p4 rfl (by repeat (first | exact rdevC_r | apply has_left)) rfl) ?_; refine nq ?_; refine tc_cond rfl (fun h => ?_) (fun h => ?_)
  · try simp only [lv1, lv2, lv3, lv4, lv5, lv6, Bool.not_true, Bool.not_false] at h
    refine sr ?_; refine tla ?_; refine nq ?_; refine tc_ret ?_; refine q_then_r ?_
    have e : sto p0 xs s = (5, s) := by unfold sto rdy; rw [h]; rfl
    rw [e]
    exact ⟨.int .i64 5, F * RDev r s, res1 rfl rfl, rdev_back hw hmap hkv, rfl, rfl⟩
  · have hoff : s.off = false := by simpa using h
    have e5 : rdy s.ls.length s.off p0 m = rdy s.ls.length false p0 m := by rw [hoff]
    refine tc_skip ?_; refine q_then_n ?_; refine tc_seq ?_; refine sr ?_; refine tlm ?_; refine tlm ?_; refine tlm ?_; refine tv (o_len Tryz.underlying32 rfl) ?_; refine tl_c rfl (o_call bd101 rfl (rinside_f _ hR hp (by omega))) ?_; rintro _ _ ⟨rfl, rfl⟩; refine tv (o_not rfl) ?_; refine nq ?_; refine tc_cond rfl (fun h => ?_) (fun h => ?_)
    · have hz : rdy s.ls.length s.off p0 m ≠ 0 := by rw [e5]; simpa using h
      have e : sto p0 xs s = (6, s) := by unfold sto; rw [hm, if_pos hz]; rw [e5] at hz ⊢; unfold rdy at hz ⊢; simp at hz ⊢; exact hz
      refine sr ?_; refine tla ?_; refine nq ?_; refine tc_ret ?_; refine q_then_r ?_
      rw [e]
      exact ⟨.int .i64 6, F * RDev r s, res1 rfl rfl, rdev_back hw hmap hkv, rfl, rfl⟩
    · have hz : rdy s.ls.length s.off p0 m = 0 := by rw [e5]; simpa using h
      obtain ⟨q, rfl⟩ := Int.eq_ofNat_of_zero_le (rdy0 hz).2.1
      have hr0 := rdy0 hz
      have hsto : sto (q : Int) xs s = storeF xs.length q xs s := by unfold sto; rw [hm, if_neg (by omega)]; rfl
      rw [hsto]
      refine tc_pre (rdev_back hw hmap hkv) ?_; refine tc_skip ?_; refine q_then_n ?_; refine sr ?_; refine tla ?_; refine nq ?_; refine tc_seq ?_; refine tc_block ?_; refine tc_loop (fun kk ρ BB => ∃ (k : Nat) (s1 : DevS), (k ≤ m) ∧ (storeF (xs.drop k).length (q + k) (xs.drop k) s1 = storeF xs.length q xs s) ∧ (Room (m - k) s1) ∧ (s1.ls.length = s.ls.length) ∧ kk = m - k ∧ ρ 7 = .int .i64 (k : Nat) ∧ ρ 0 = .pointer (some ⟨r, 0, none⟩) ∧ ρ 1 = .int .i64 (q : Nat) ∧ ρ 2 = .slice a m c ∧ BB = F * RDev r s1) (m := m - (0)) ?_ ?_
      · exact ⟨0, s, by omega, rfl, hroom hz, rfl, rfl, rfl, rfl, rfl, rfl, rfl⟩
      · intro k ρ B hI
        obtain ⟨k, s1, hp0, hp1, hp2, hp3, hkk1, hE7, hE0, hE1, hE2, rfl⟩ := hI
        refine tc_env (d := 7) hE7 ?_; refine tc_env (d := 0) hE0 ?_; refine tc_env (d := 1) hE1 ?_; refine tc_env (d := 2) hE2 ?_
        clear hE7 hE0 hE1 hE2
        refine tc_seq ?_; refine sr ?_; refine tlm ?_; refine tlm ?_; refine tv (o_len Tryz.underlying32 rfl) ?_; refine tv (o_lss rfl rfl) ?_; refine nq ?_; refine tc_cond rfl (fun h => ?_) (fun h => ?_)
        · have hk : k < m := by simp at h; omega
          have hb0 : xs.drop k ≠ [] := by intro e; have := congrArg List.length e; rw [List.length_drop] at this; simp at this; omega
          have hdl : (xs.drop k).length = m - k := by rw [List.length_drop]; omega
          refine tc_skip ?_; refine q_then_n ?_; refine tc_block ?_; refine sr ?_; refine tlm ?_; refine tlm ?_; refine tv (by first | exact o_addI rfl rfl (by omega) | exact o_add rfl rfl) ?_; refine tl_env (d := 26) (v := .int .i64 ((q + k : Nat) : Int)) (rfl) ?_; refine tv (o_remN (b := 8) rfl rfl (by omega)) ?_; refine tv (by first | exact o_subI rfl rfl (by omega) | exact o_sub rfl rfl) ?_; refine tl_env (d := 28) (v := .int .i64 ((8 - (q + k) % 8 : Nat) : Int)) (by show Value.int .i64 _ = _; congr 1; omega) ?_; refine tla ?_; refine nq ?_; refine tc_seq ?_; refine sr ?_; refine tlm ?_; refine tlm ?_; refine tv (o_len Tryz.underlying32 rfl) ?_; refine tlm ?_; refine tv (by first | exact o_subI rfl rfl (by omega) | exact o_sub rfl rfl) ?_; refine tv (o_gtr rfl rfl) ?_; refine nq ?_; refine tc_cut (fun ρ BB => ρ 8 = .int .i64 ((min (m - k) (8 - (q + k) % 8) : Nat) : Int) ∧ ρ 0 = .pointer (some ⟨r, 0, none⟩) ∧ ρ 1 = .int .i64 (q : Nat) ∧ ρ 2 = .slice a m c ∧ ρ 7 = .int .i64 (k : Nat) ∧ BB = F * RDev r s1) ?_ ?_
          · skip
            refine tc_cond rfl (fun h => ?_) (fun h => ?_)
            · try simp only [lv1, lv2, lv3, lv4, lv5, lv6, Bool.not_true, Bool.not_false] at h
              refine tc_reg ?_; refine tlm ?_; refine tv (o_len Tryz.underlying32 rfl) ?_; refine tlm ?_; refine tv (by first | exact o_subI rfl rfl (by omega) | exact o_sub rfl rfl) ?_; refine tla ?_; refine tl_nil ?_; exact ⟨(by (try simp at h); show Value.int .i64 _ = Value.int .i64 _; congr 1; omega), rfl, rfl, rfl, rfl, rfl⟩
            · try simp only [lv1, lv2, lv3, lv4, lv5, lv6, Bool.not_true, Bool.not_false] at h
              refine tc_skip ?_; exact ⟨(by (try simp at h); show Value.int .i64 _ = Value.int .i64 _; congr 1; omega), rfl, rfl, rfl, rfl, rfl⟩
          · intro ρ B hI
            obtain ⟨hE8, hE0, hE1, hE2, hE7, rfl⟩ := hI
            refine q_then_n ?_; refine tc_env (d := 8) hE8 ?_; refine tc_env (d := 0) hE0 ?_; refine tc_env (d := 1) hE1 ?_; refine tc_env (d := 2) hE2 ?_; refine tc_env (d := 7) hE7 ?_
            clear hE8 hE0 hE1 hE2 hE7
            refine sr ?_; refine tlm ?_; refine tlm ?_; refine tlm ?_; refine tv (by first | exact o_addI rfl rfl (by omega) | exact o_add rfl rfl) ?_; refine tl_env (d := 42) (v := .int .i64 ((q + k : Nat) : Int)) (rfl) ?_; refine tlm ?_; refine tlm ?_; refine tlm ?_; refine tlm ?_; refine tv (by first | exact o_addI rfl rfl (by omega) | exact o_add rfl rfl) ?_; refine tl_env (d := 47) (v := .int .i64 ((k + min (m - k) (8 - (q + k) % 8) : Nat) : Int)) (rfl) ?_; refine tv (o_slice (l := k) (h := k + min (m - k) (8 - (q + k) % 8)) Tryz.underlying32 sz5 rfl (bnd_nat rfl) (bnd_nat rfl) (by omega) (by omega)) ?_; refine tl_env (d := 48) (v := .slice (cutAddr a c k 1) (min (m - k) (8 - (q + k) % 8)) (c - k)) (by show Value.slice _ (k + min (m - k) (8 - (q + k) % 8) - k) _ = _; rw [Nat.add_sub_cancel_left]) ?_
            have hrm1 : Room 1 s1 := fun l hl => by have := hp2 l hl; omega
            refine tl_c rfl (o_call bd102 rfl (rword_c (p := q + k) (xs := ((xs.drop k).take (min (m - k) (8 - (q + k) % 8)))) (hr := rs_mid hr (by omega)) (hm := by rw [List.length_take, hdl]; omega) (hx := by omega) (hb := fun x hx => hb x (List.mem_of_mem_drop (List.mem_of_mem_take hx))) (hi := by omega))) ?_; rintro _ _ ⟨rfl, rfl⟩
            rw [stW_min (p := q + k) (b := xs.drop k) (by rw [hdl])]
            refine tla ?_; refine nq ?_; refine tc_seq ?_; refine sr ?_; refine tlm ?_; refine tv (o_nei rfl rfl) ?_; refine nq ?_; refine tc_cond rfl (fun h => ?_) (fun h => ?_)
            · have h : doneE (layS (q + k - (q + k) % 8) (nm (stW (q + k) (xs.drop k) s1)) s1) ≠ 0 := by simpa using h
              have e : storeF xs.length q xs s = (doneE (layS (q + k - (q + k) % 8) (nm (stW (q + k) (xs.drop k) s1)) s1), doneS (layS (q + k - (q + k) % 8) (nm (stW (q + k) (xs.drop k) s1)) s1)) := by rw [← hp1, storeF_step hb0, if_pos h]
              refine sr ?_; refine tlm ?_; refine tla ?_; refine nq ?_; refine tc_ret ?_; refine q_then_r (q_block_r (q_then_r (q_block_r (q_then_r ?_))))
              first
              | (rw [e]; exact ⟨.int .i64 (doneE (layS (q + k - (q + k) % 8) (nm (stW (q + k) (xs.drop k) s1)) s1)), F * RDev r (doneS (layS (q + k - (q + k) % 8) (nm (stW (q + k) (xs.drop k) s1)) s1)), res1 rfl rfl, Dr.sat (by repeat (first | with_reducible exact dr_refl | apply dr_keep | apply dr_drop)), rfl, rfl⟩)
              | (obtain rfl : k = m := by omega
                 have e : storeF xs.length q xs s = (0, s1) := by rw [← hp1, List.drop_of_length_le (by omega), storeF_nil]
                 rw [e]; exact ⟨.int .i64 0, F * RDev r s1, res1 rfl rfl, fun _ _ h => h, rfl, rfl⟩)
            · have h : doneE (layS (q + k - (q + k) % 8) (nm (stW (q + k) (xs.drop k) s1)) s1) = 0 := by simpa using h
              obtain ⟨hd1, hd2⟩ := doneE_ok h
              have hdd : (xs.drop k).drop (8 - (q + k) % 8) = xs.drop (k + min (m - k) (8 - (q + k) % 8)) := by
                rw [List.drop_drop]
                rcases Nat.le_total (m - k) (8 - (q + k) % 8) with h | h
                · rw [Nat.min_eq_left h, List.drop_of_length_le (by omega), List.drop_of_length_le (by omega)]
                · rw [Nat.min_eq_right h]
              have hstep : storeF (xs.drop (k + min (m - k) (8 - (q + k) % 8))).length (q + (k + min (m - k) (8 - (q + k) % 8))) (xs.drop (k + min (m - k) (8 - (q + k) % 8))) (doneS (layS (q + k - (q + k) % 8) (nm (stW (q + k) (xs.drop k) s1)) s1)) = storeF xs.length q xs s := by
                rw [← hp1, storeF_step hb0, if_neg (by simpa using h), hdd, hdl, ← Nat.add_assoc]
              have hrm2 : Room (m - (k + min (m - k) (8 - (q + k) % 8))) (doneS (layS (q + k - (q + k) % 8) (nm (stW (q + k) (xs.drop k) s1)) s1)) := fun l hl => by
                rw [hd2] at hl
                have h1 : Room ((m - k - 1) + 1) s1 := fun l hl => by have := hp2 l hl; omega
                have := onLine_room (f := layL ((q + k - (q + k) % 8) % 64 / 8) (nm (stW (q + k) (xs.drop k) s1))) (i := (q + k - (q + k) % 8) / 64) h1 (fun l => by simp [layL]) l hl
                omega
              refine tc_skip ?_; refine q_then_n ?_; refine tc_reg ?_; refine tlm ?_; refine tlm ?_; refine tv (by first | exact o_addI rfl rfl (by omega) | exact o_add rfl rfl) ?_; refine tla ?_; refine tl_nil ?_; refine q_block_n (q_then_n ?_); exact ⟨_, by omega, k + min (m - k) (8 - (q + k) % 8), _, by omega, hstep, hrm2, by rw [hd2, layS_len]; exact hp3, rfl, rfl, rfl, rfl, rfl, rfl⟩
        · try simp only [lv1, lv2, lv3, lv4, lv5, lv6, Bool.not_true, Bool.not_false] at h
          refine tc_exit ?_; refine q_then_e (q_then_e (q_block_x (q_then_n ?_))); refine sr ?_; refine tla ?_; refine nq ?_; refine tc_ret ?_
          first
          | (rw [e]; exact ⟨.int .i64 (doneE (layS (q + k - (q + k) % 8) (nm (stW (q + k) (xs.drop k) s1)) s1)), F * RDev r (doneS (layS (q + k - (q + k) % 8) (nm (stW (q + k) (xs.drop k) s1)) s1)), res1 rfl rfl, Dr.sat (by repeat (first | with_reducible exact dr_refl | apply dr_keep | apply dr_drop)), rfl, rfl⟩)
          | (obtain rfl : k = m := by omega
             have e : storeF xs.length q xs s = (0, s1) := by rw [← hp1, List.drop_of_length_le (by omega), storeF_nil]
             rw [e]; exact ⟨.int .i64 0, F * RDev r s1, res1 rfl rfl, fun _ _ h => h, rfl, rfl⟩)
set_option maxRecDepth 20000 in
set_option maxHeartbeats 1000000 in
theorem rFence_f (F : SP) {r : Nat} {s : DevS} :
    Fn Tryz.prog 40 #[.pointer (some ⟨r, 0, none⟩)] (F * RDev r s) (fun v B => v = .int .i64 (fe s).1 ∧ B = F * RDev r (fe s).2) := by
  refine fn_enterW (args := [.pointer (some ⟨r, 0, none⟩)]) Tryz.func40 rfl Tryz.ntmps40 (by simp) ?_; refine tc_rdev fun hw lv rls av kvs hmap hkv => ?_
  have hpos := hw.pos
  have htop := hw.top
  refine tc_have (fun _ _ h => rdevR_of hw hmap h) fun hR => ?_
  obtain ⟨bl, ol, cl_, rfl, hlc, hll⟩ := hR.lv
  have hlen := hR.len
  
  refine sr ?_; refine tla ?_; refine nq ?_; refine tc_seq ?_; refine sr ?_; refine tlm ?_; refine tv (o_nilCheck rfl) ?_; refine tv (o_fieldAddr (o := 5) Tryz.underlying114 rfl rfl sz4 rfl) ?_; refine tv (o_load p4 rfl (by repeat (first | exact rdevC_r | apply has_left)) rfl) ?_; refine nq ?_; refine tc_cond rfl (fun h => ?_) (fun h => ?_)
  · try simp only [lv1, lv2, lv3, lv4, lv5, lv6, Bool.not_true, Bool.not_false] at h
    refine sr ?_; refine tla ?_; refine nq ?_; refine tc_ret ?_; refine q_then_r ?_
    have e : fe s = (5, s) := by unfold fe; rw [if_pos h]
    rw [e]
    exact ⟨.int .i64 5, F * RDev r s, res1 rfl rfl, rdev_back hw hmap hkv, rfl, rfl⟩
  · have hoff : s.off = false := by simpa using h
    have e : fe s = (doneE (fenceS s), doneS (fenceS s)) := by unfold fe; rw [if_neg (by rw [hoff]; decide)]
    rw [e]
    refine tc_skip ?_; refine q_then_n ?_; refine tc_seq ?_; refine sr ?_; refine tla ?_; refine nq ?_; refine tc_block ?_; refine tc_loop (fun kk ρ BB => ∃ (i : Nat) (rls1 : List RL), (i ≤ s.ls.length) ∧ (rls1.map RL.l = mp fenceL i s.ls) ∧ kk = s.ls.length - i ∧ ρ 3 = .int .i64 (i : Nat) ∧ ρ 0 = .pointer (some ⟨r, 0, none⟩) ∧ BB = F * RDevC r (.slice (some ⟨bl, ol, none⟩) s.ls.length cl_) rls1 av kvs { s with ls := mp fenceL i s.ls }) (m := s.ls.length - (0)) ?_ ?_
    · exact ⟨0, rls, by omega, by rw [mp_zero]; exact hmap, rfl, rfl, rfl, by rw [mp_zero]⟩
    · intro k ρ B hI
      obtain ⟨i, rls1, hp0, hp1, hkk1, hE3, hE0, rfl⟩ := hI
      refine tc_env (d := 3) hE3 ?_; refine tc_env (d := 0) hE0 ?_
      clear hE3 hE0
      refine tc_seq ?_; refine sr ?_; refine tlm ?_; refine tlm ?_; refine tv (o_nilCheck rfl) ?_; refine tv (o_fieldAddr (o := 1) Tryz.underlying114 rfl rfl sz112 rfl) ?_; refine tv (o_load p112 rfl (by repeat (first | exact rdevC_r | apply has_left)) rfl) ?_; refine tv (o_len Tryz.underlying112 rfl) ?_; refine tv (o_lss rfl rfl) ?_; refine nq ?_; refine tc_cond rfl (fun h => ?_) (fun h => ?_)
      · have hi : i < s.ls.length := by simp at h; omega
        have hgl : (mp fenceL i s.ls).length = s.ls.length := mp_length _ _ _
        refine tc_have (fun _ _ h => rdevR_of (mpF_wf hw) hp1 h) fun hR1 => ?_
        have hir : i < rls1.length := by rw [hR1.len, hgl]; exact hi
        obtain ⟨ba, oa, ca, g1, hca, har⟩ := hR1.allC hir
        have hll1 := hR1.lvR
        have hsm := hR1.small hir
        have hps := hR1.pos hir
        have g2 := rcl_at1 hir
        have hwl := (mpF_wf (i := i) hw).line _ (List.getElem_mem (show i < (mp fenceL i s.ls).length by omega))
        have hmk := hR1.mark hir (show i < (mp fenceL i s.ls).length by omega)
        have hrl := hR1.rows hir (show i < (mp fenceL i s.ls).length by omega)
        have hlo := hwl.lo
        have hhi := hwl.hi
        have hat := mp_at fenceL hi
        have hla := hR1.at_ _ hir (show i < (mp fenceL i s.ls).length by omega)
        simp only [hat] at hmk hrl hlo hhi hla
        rw [← hmk] at hlo hhi
        rw [← hrl] at hhi
        refine tc_skip ?_; refine q_then_n ?_; refine tc_seq ?_; refine tc_block ?_; refine sr ?_; refine tlm ?_; refine tv (o_nilCheck rfl) ?_; refine tv (o_fieldAddr (o := 1) Tryz.underlying114 rfl rfl sz112 rfl) ?_; refine tv (o_load p112 rfl (by repeat (first | exact rdevC_r | apply has_left)) rfl) ?_; refine tlm ?_; refine tv (o_ixP Tryz.underlying112 sz116 rfl rfl (by first | omega | (simp only [bys_length, ints_length, wds_length, bos_length, List.length_append, List.length_take, List.length_drop, List.length_singleton]; omega)) (by repeat (first | exact nn_some | with_reducible exact nn_sl (by decide) | exact nn_rs (by assumption) (fun _ => by first | omega | (simp only [bys_length, ints_length, wds_length, bos_length, List.length_append, List.length_take, List.length_drop, List.length_singleton]; omega)) | apply Nn.left))) ?_; refine tv (o_faP (m := 0) (o := 1) Tryz.underlying116 rfl rfl sz3 rfl (by repeat (first | exact nn_some | with_reducible exact nn_sl (by decide) | exact nn_rs (by assumption) (fun _ => by first | omega | (simp only [bys_length, ints_length, wds_length, bos_length, List.length_append, List.length_take, List.length_drop, List.length_singleton]; omega)) | apply Nn.left))) ?_; refine tv (o_ldP p3 rfl hll1 g2) ?_; refine tv (o_geq rfl rfl) ?_; refine nq ?_; refine tc_cond rfl (fun h => ?_) (fun h => ?_)
        · have h0 : 0 ≤ rls1[i].mark := by simpa using h
          refine tc_seq ?_
          obtain ⟨R, hf1, hf2⟩ := rdevC_focus (r := r) (lv := (.slice (some ⟨bl, ol, none⟩) s.ls.length cl_)) (av := av) (kvs := kvs) (s := { s with ls := mp fenceL i s.ls }) (n := s.ls.length) hir hgl
          refine tc_eq (hf1 F) ?_
          have hv0 : rls1[i].v = .slice (some ⟨ba, oa, none⟩) rls1[i].rows.length ca := by rw [rcl_at0 hir] at g1; exact Option.some.inj g1
          rw [hv0]
          refine tc_regh (S := F * R * pt r (cl (rdcs (.slice (some ⟨bl, ol, none⟩) s.ls.length cl_) { s with ls := mp fenceL i s.ls } av) 114) * Bs rowR rls1[i].rows) mo (by repeat (first | with_reducible exact dr_refl | apply dr_keep | apply dr_drop)) ?_
          show TH _ _ _ _ _ 25 #[ff,ff,ff,ff,ff,ff,ff,ff,ff,ff,ff,ff,ff,ff,ff,ff,ff,ff,ff,ff,ff,ff,ff,ff,ff] _ _
          refine th_take (i := 0) (listed' := #[tt,ff,ff,ff,ff,ff,ff,ff,ff,ff,ff,ff,ff,ff,ff,ff,ff,ff,ff,ff,ff,ff,ff,ff,ff]) rfl (by kernel_rfl) (by kernel_rfl) (by kernel_rfl) rfl rfl (o_move (by conv => lhs; whnf)) ?_; refine th_take (i := 1) (listed' := #[tt,tt,ff,ff,ff,ff,ff,ff,ff,ff,ff,ff,ff,ff,ff,ff,ff,ff,ff,ff,ff,ff,ff,ff,ff]) rfl (by kernel_rfl) (by kernel_rfl) (by kernel_rfl) rfl rfl (o_nilCheck rfl) ?_; refine th_take (i := 2) (listed' := #[tt,tt,tt,ff,ff,ff,ff,ff,ff,ff,ff,ff,ff,ff,ff,ff,ff,ff,ff,ff,ff,ff,ff,ff,ff]) rfl (by kernel_rfl) (by kernel_rfl) (by kernel_rfl) rfl rfl (o_fieldAddr (o := 1) Tryz.underlying114 rfl rfl sz112 rfl) ?_; refine th_take (i := 3) (listed' := #[tt,tt,tt,tt,ff,ff,ff,ff,ff,ff,ff,ff,ff,ff,ff,ff,ff,ff,ff,ff,ff,ff,ff,ff,ff]) rfl (by kernel_rfl) (by kernel_rfl) (by kernel_rfl) rfl rfl (by first | exact o_load p112 rfl (by repeat (first | with_reducible exact has_here | with_reducible exact has_pt | apply has_left)) rfl | exact o_loadC p112 rfl (by assumption)) ?_; refine th_take (i := 4) (listed' := #[tt,tt,tt,tt,tt,ff,ff,ff,ff,ff,ff,ff,ff,ff,ff,ff,ff,ff,ff,ff,ff,ff,ff,ff,ff]) rfl (by kernel_rfl) (by kernel_rfl) (by kernel_rfl) rfl rfl (o_move (by conv => lhs; whnf)) ?_; refine th_take (i := 5) (listed' := #[tt,tt,tt,tt,tt,tt,ff,ff,ff,ff,ff,ff,ff,ff,ff,ff,ff,ff,ff,ff,ff,ff,ff,ff,ff]) rfl (by kernel_rfl) (by kernel_rfl) (by kernel_rfl) rfl rfl (o_move (by conv => lhs; whnf)) ?_; refine th_take (i := 6) (listed' := #[tt,tt,tt,tt,tt,tt,tt,ff,ff,ff,ff,ff,ff,ff,ff,ff,ff,ff,ff,ff,ff,ff,ff,ff,ff]) rfl (by kernel_rfl) (by kernel_rfl) (by kernel_rfl) rfl rfl (o_nilCheck rfl) ?_
          refine th_take (i := 7) (listed' := #[tt,tt,tt,tt,tt,tt,tt,tt,ff,ff,ff,ff,ff,ff,ff,ff,ff,ff,ff,ff,ff,ff,ff,ff,ff]) rfl (by kernel_rfl) (by kernel_rfl) (by kernel_rfl) rfl rfl (o_fieldAddr (o := 1) Tryz.underlying114 rfl rfl sz112 rfl) ?_; refine th_take (i := 8) (listed' := #[tt,tt,tt,tt,tt,tt,tt,tt,tt,ff,ff,ff,ff,ff,ff,ff,ff,ff,ff,ff,ff,ff,ff,ff,ff]) rfl (by kernel_rfl) (by kernel_rfl) (by kernel_rfl) rfl rfl (by first | exact o_load p112 rfl (by repeat (first | with_reducible exact has_here | with_reducible exact has_pt | apply has_left)) rfl | exact o_loadC p112 rfl (by assumption)) ?_; refine th_take (i := 9) (listed' := #[tt,tt,tt,tt,tt,tt,tt,tt,tt,tt,ff,ff,ff,ff,ff,ff,ff,ff,ff,ff,ff,ff,ff,ff,ff]) rfl (by kernel_rfl) (by kernel_rfl) (by kernel_rfl) rfl rfl (o_move (by conv => lhs; whnf)) ?_; refine th_take (i := 10) (listed' := #[tt,tt,tt,tt,tt,tt,tt,tt,tt,tt,tt,ff,ff,ff,ff,ff,ff,ff,ff,ff,ff,ff,ff,ff,ff]) rfl (by kernel_rfl) (by kernel_rfl) (by kernel_rfl) rfl rfl (o_ixP Tryz.underlying112 sz116 rfl rfl (by first | omega | (simp only [bys_length, ints_length, wds_length, bos_length, List.length_append, List.length_take, List.length_drop, List.length_singleton]; omega)) (by repeat (first | exact nn_some | with_reducible exact nn_sl (by decide) | exact nn_rs (by assumption) (fun _ => by first | omega | (simp only [bys_length, ints_length, wds_length, bos_length, List.length_append, List.length_take, List.length_drop, List.length_singleton]; omega)) | apply Nn.left))) ?_
          refine th_take (i := 11) (listed' := #[tt,tt,tt,tt,tt,tt,tt,tt,tt,tt,tt,tt,ff,ff,ff,ff,ff,ff,ff,ff,ff,ff,ff,ff,ff]) rfl (by kernel_rfl) (by kernel_rfl) (by kernel_rfl) rfl rfl (o_faP (m := 0) (o := 0) Tryz.underlying116 rfl rfl sz88 rfl (by repeat (first | exact nn_some | with_reducible exact nn_sl (by decide) | exact nn_rs (by assumption) (fun _ => by first | omega | (simp only [bys_length, ints_length, wds_length, bos_length, List.length_append, List.length_take, List.length_drop, List.length_singleton]; omega)) | apply Nn.left))) ?_; refine th_take (i := 13) (listed' := #[tt,tt,tt,tt,tt,tt,tt,tt,tt,tt,tt,tt,ff,tt,ff,ff,ff,ff,ff,ff,ff,ff,ff,ff,ff]) rfl (by kernel_rfl) (by kernel_rfl) (by kernel_rfl) rfl rfl (o_move (by conv => lhs; whnf)) ?_; refine th_take (i := 14) (listed' := #[tt,tt,tt,tt,tt,tt,tt,tt,tt,tt,tt,tt,ff,tt,tt,ff,ff,ff,ff,ff,ff,ff,ff,ff,ff]) rfl (by kernel_rfl) (by kernel_rfl) (by kernel_rfl) rfl rfl (o_nilCheck rfl) ?_; refine th_take (i := 15) (listed' := #[tt,tt,tt,tt,tt,tt,tt,tt,tt,tt,tt,tt,ff,tt,tt,tt,ff,ff,ff,ff,ff,ff,ff,ff,ff]) rfl (by kernel_rfl) (by kernel_rfl) (by kernel_rfl) rfl rfl (o_fieldAddr (o := 1) Tryz.underlying114 rfl rfl sz112 rfl) ?_; refine th_take (i := 16) (listed' := #[tt,tt,tt,tt,tt,tt,tt,tt,tt,tt,tt,tt,ff,tt,tt,tt,tt,ff,ff,ff,ff,ff,ff,ff,ff]) rfl (by kernel_rfl) (by kernel_rfl) (by kernel_rfl) rfl rfl (by first | exact o_load p112 rfl (by repeat (first | with_reducible exact has_here | with_reducible exact has_pt | apply has_left)) rfl | exact o_loadC p112 rfl (by assumption)) ?_
          refine th_take (i := 17) (listed' := #[tt,tt,tt,tt,tt,tt,tt,tt,tt,tt,tt,tt,ff,tt,tt,tt,tt,tt,ff,ff,ff,ff,ff,ff,ff]) rfl (by kernel_rfl) (by kernel_rfl) (by kernel_rfl) rfl rfl (o_move (by conv => lhs; whnf)) ?_; refine th_take (i := 18) (listed' := #[tt,tt,tt,tt,tt,tt,tt,tt,tt,tt,tt,tt,ff,tt,tt,tt,tt,tt,tt,ff,ff,ff,ff,ff,ff]) rfl (by kernel_rfl) (by kernel_rfl) (by kernel_rfl) rfl rfl (o_ixP Tryz.underlying112 sz116 rfl rfl (by first | omega | (simp only [bys_length, ints_length, wds_length, bos_length, List.length_append, List.length_take, List.length_drop, List.length_singleton]; omega)) (by repeat (first | exact nn_some | with_reducible exact nn_sl (by decide) | exact nn_rs (by assumption) (fun _ => by first | omega | (simp only [bys_length, ints_length, wds_length, bos_length, List.length_append, List.length_take, List.length_drop, List.length_singleton]; omega)) | apply Nn.left))) ?_; refine th_take (i := 19) (listed' := #[tt,tt,tt,tt,tt,tt,tt,tt,tt,tt,tt,tt,ff,tt,tt,tt,tt,tt,tt,tt,ff,ff,ff,ff,ff]) rfl (by kernel_rfl) (by kernel_rfl) (by kernel_rfl) rfl rfl (o_faP (m := 0) (o := 1) Tryz.underlying116 rfl rfl sz3 rfl (by repeat (first | exact nn_some | with_reducible exact nn_sl (by decide) | exact nn_rs (by assumption) (fun _ => by first | omega | (simp only [bys_length, ints_length, wds_length, bos_length, List.length_append, List.length_take, List.length_drop, List.length_singleton]; omega)) | apply Nn.left))) ?_; refine th_two (i := 12) (j := 20) (by kernel_rfl) ?_ ?_
          · skip
            refine oh_v (i := 12) (listed' := #[tt,tt,tt,tt,tt,tt,tt,tt,tt,tt,tt,tt,tt,tt,tt,tt,tt,tt,tt,tt,ff,ff,ff,ff,ff]) rfl rfl rfl (o_ldP p88 rfl (by repeat (first | assumption | with_reducible exact rs_sl | with_reducible exact rs_pt0 | exact rs_none | apply Rs.left)) g1) ?_; refine th_one (i := 20) (by kernel_rfl) ?_; refine oh_v (i := 20) (listed' := #[tt,tt,tt,tt,tt,tt,tt,tt,tt,tt,tt,tt,tt,tt,tt,tt,tt,tt,tt,tt,tt,ff,ff,ff,ff]) rfl rfl rfl (o_ldP p3 rfl (by repeat (first | assumption | with_reducible exact rs_sl | with_reducible exact rs_pt0 | exact rs_none | apply Rs.left)) g2) ?_; refine th_take (i := 21) (listed' := #[tt,tt,tt,tt,tt,tt,tt,tt,tt,tt,tt,tt,tt,tt,tt,tt,tt,tt,tt,tt,tt,tt,ff,ff,ff]) rfl (by kernel_rfl) (by kernel_rfl) (by kernel_rfl) rfl rfl (o_slice Tryz.underlying88 sz32 rfl (bnd_some rfl (by omega)) bnd_none (by omega) (by omega)) ?_; refine th_take (i := 22) (listed' := #[tt,tt,tt,tt,tt,tt,tt,tt,tt,tt,tt,tt,tt,tt,tt,tt,tt,tt,tt,tt,tt,tt,tt,ff,ff]) rfl (by kernel_rfl) (by kernel_rfl) (by kernel_rfl) rfl rfl (o_ixP Tryz.underlying112 sz116 rfl rfl (by first | omega | (simp only [bys_length, ints_length, wds_length, bos_length, List.length_append, List.length_take, List.length_drop, List.length_singleton]; omega)) (by repeat (first | exact nn_some | with_reducible exact nn_sl (by decide) | exact nn_rs (by assumption) (fun _ => by first | omega | (simp only [bys_length, ints_length, wds_length, bos_length, List.length_append, List.length_take, List.length_drop, List.length_singleton]; omega)) | apply Nn.left))) ?_
            refine th_take (i := 23) (listed' := #[tt,tt,tt,tt,tt,tt,tt,tt,tt,tt,tt,tt,tt,tt,tt,tt,tt,tt,tt,tt,tt,tt,tt,tt,ff]) rfl (by kernel_rfl) (by kernel_rfl) (by kernel_rfl) rfl rfl (o_faP (m := 0) (o := 0) Tryz.underlying116 rfl rfl sz88 rfl (by repeat (first | exact nn_some | with_reducible exact nn_sl (by decide) | exact nn_rs (by assumption) (fun _ => by first | omega | (simp only [bys_length, ints_length, wds_length, bos_length, List.length_append, List.length_take, List.length_drop, List.length_singleton]; omega)) | apply Nn.left))) ?_; refine th_one (i := 24) (by kernel_rfl) ?_; refine oh_u (i := 24) (listed' := #[tt,tt,tt,tt,tt,tt,tt,tt,tt,tt,tt,tt,tt,tt,tt,tt,tt,tt,tt,tt,tt,tt,tt,tt,tt]) rfl rfl rfl (o_stP (ys := (rls1.set i ⟨.slice (cutAddr (some ⟨ba, oa, none⟩) ca rls1[i].mark.toNat 1) (rls1[i].rows.length - rls1[i].mark.toNat) (ca - rls1[i].mark.toNat), rls1[i].rows.drop rls1[i].mark.toNat, rls1[i].mark⟩).flatMap rcl) sz88 rfl rfl rfl (by repeat (first | with_reducible exact ct_here | apply ct_left)) (by omega) (fm_set (f := rcl) (k := 2) (j := 0) (y := ⟨.slice (cutAddr (some ⟨ba, oa, none⟩) ca rls1[i].mark.toNat 1) (rls1[i].rows.length - rls1[i].mark.toNat) (ca - rls1[i].mark.toNat), rls1[i].rows.drop rls1[i].mark.toNat, rls1[i].mark⟩) (rcl_len _) hir (by decide) rfl rfl)) (by repeat (first | with_reducible exact dr_refl | apply dr_keep | apply dr_drop)) ?_; refine th_done (by kernel_rfl) ?_; refine q_then_n ?_
            have hir2 : i < (rls1.set i ⟨.slice (cutAddr (some ⟨ba, oa, none⟩) ca rls1[i].mark.toNat 1) (rls1[i].rows.length - rls1[i].mark.toNat) (ca - rls1[i].mark.toNat), rls1[i].rows.drop rls1[i].mark.toNat, rls1[i].mark⟩).length := by rw [List.length_set]; exact hir
            refine tc_reg ?_; refine tlm ?_; refine tv (o_nilCheck rfl) ?_; refine tv (o_fieldAddr (o := 1) Tryz.underlying114 rfl rfl sz112 rfl) ?_; refine tv (by first | exact o_load p112 rfl (by repeat (first | with_reducible exact has_here | with_reducible exact has_pt | apply has_left)) rfl | exact o_loadC p112 rfl (by assumption)) ?_; refine tlm ?_; refine tv (o_ixP Tryz.underlying112 sz116 rfl rfl (by first | omega | (simp only [bys_length, ints_length, wds_length, bos_length, List.length_append, List.length_take, List.length_drop, List.length_singleton]; omega)) (by repeat (first | exact nn_some | with_reducible exact nn_sl (by decide) | exact nn_rs (by assumption) (fun _ => by first | omega | (simp only [bys_length, ints_length, wds_length, bos_length, List.length_append, List.length_take, List.length_drop, List.length_singleton]; omega)) | apply Nn.left))) ?_; refine tv (o_faP (m := 0) (o := 1) Tryz.underlying116 rfl rfl sz3 rfl (by repeat (first | exact nn_some | with_reducible exact nn_sl (by decide) | exact nn_rs (by assumption) (fun _ => by first | omega | (simp only [bys_length, ints_length, wds_length, bos_length, List.length_append, List.length_take, List.length_drop, List.length_singleton]; omega)) | apply Nn.left))) ?_; refine tl_u rfl (o_stP (ys := (rls1.set i ⟨.slice (cutAddr (some ⟨ba, oa, none⟩) ca rls1[i].mark.toNat 1) (rls1[i].rows.length - rls1[i].mark.toNat) (ca - rls1[i].mark.toNat), rls1[i].rows.drop rls1[i].mark.toNat, -1⟩).flatMap rcl) sz3 rfl rfl rfl (by repeat (first | with_reducible exact ct_here | apply ct_left)) (by omega) ((fm_set (f := rcl) (k := 2) (j := 1) (y := ⟨.slice (cutAddr (some ⟨ba, oa, none⟩) ca rls1[i].mark.toNat 1) (rls1[i].rows.length - rls1[i].mark.toNat) (ca - rls1[i].mark.toNat), rls1[i].rows.drop rls1[i].mark.toNat, -1⟩) (rcl_len _) hir2 (by decide) rfl (by rw [List.getElem_set_self]; rfl)).trans (by rw [List.set_set]))) ?_
            have hnext : (rls1.set i ⟨.slice (cutAddr (some ⟨ba, oa, none⟩) ca rls1[i].mark.toNat 1) (rls1[i].rows.length - rls1[i].mark.toNat) (ca - rls1[i].mark.toNat), rls1[i].rows.drop rls1[i].mark.toNat, -1⟩).map RL.l = mp fenceL (i + 1) s.ls := by
              rw [List.map_set, hp1, ← mp_set fenceL hi]
              congr 1
              unfold fenceL
              rw [if_pos (by rw [← hmk]; exact h0), ← hmk, ← hla]
              simp [RL.l, List.map_drop]
            refine tl_pre (A' := F * RDevC r (.slice (some ⟨bl, ol, none⟩) s.ls.length cl_) (rls1.set i ⟨.slice (cutAddr (some ⟨ba, oa, none⟩) ca rls1[i].mark.toNat 1) (rls1[i].rows.length - rls1[i].mark.toNat) (ca - rls1[i].mark.toNat), rls1[i].rows.drop rls1[i].mark.toNat, -1⟩) av kvs { s with ls := mp fenceL (i + 1) s.ls }) (fun _ _ h => ?_) ?_
            · rw [← hf2 F ⟨.slice (cutAddr (some ⟨ba, oa, none⟩) ca rls1[i].mark.toNat 1) (rls1[i].rows.length - rls1[i].mark.toNat) (ca - rls1[i].mark.toNat), rls1[i].rows.drop rls1[i].mark.toNat, -1⟩ { s with ls := mp fenceL (i + 1) s.ls } (mp_length _ _ _) rfl rfl rfl rfl]
              have h1 := sl_cut (l := rls1[i].mark.toNat) (h.perm (star_swap _ _ _)) (by omega)
              rw [bs_split _ rls1[i].mark.toNat] at h1
              simp only [List.length_drop, List.map_drop, Nat.mul_one] at h1 ⊢
              exact (h1.perm (show _ = _ * Bs rowR (rls1[i].rows.take rls1[i].mark.toNat) by ac_rfl)).left
            refine tl_nil ?_; refine q_block_n (q_then_n ?_); refine tc_reg ?_; refine tlm ?_; refine tv (by first | exact o_addI rfl rfl (by omega) | exact o_add rfl rfl) ?_; refine tla ?_; refine nq ?_; exact ⟨_, by omega, i + 1, _, by omega, hnext, rfl, rfl, rfl, rfl⟩
          · skip
            refine oh_v (i := 20) (listed' := #[tt,tt,tt,tt,tt,tt,tt,tt,tt,tt,tt,tt,ff,tt,tt,tt,tt,tt,tt,tt,tt,ff,ff,ff,ff]) rfl rfl rfl (o_ldP p3 rfl (by repeat (first | assumption | with_reducible exact rs_sl | with_reducible exact rs_pt0 | exact rs_none | apply Rs.left)) g2) ?_; refine th_one (i := 12) (by kernel_rfl) ?_; refine oh_v (i := 12) (listed' := #[tt,tt,tt,tt,tt,tt,tt,tt,tt,tt,tt,tt,tt,tt,tt,tt,tt,tt,tt,tt,tt,ff,ff,ff,ff]) rfl rfl rfl (o_ldP p88 rfl (by repeat (first | assumption | with_reducible exact rs_sl | with_reducible exact rs_pt0 | exact rs_none | apply Rs.left)) g1) ?_; refine th_take (i := 21) (listed' := #[tt,tt,tt,tt,tt,tt,tt,tt,tt,tt,tt,tt,tt,tt,tt,tt,tt,tt,tt,tt,tt,tt,ff,ff,ff]) rfl (by kernel_rfl) (by kernel_rfl) (by kernel_rfl) rfl rfl (o_slice Tryz.underlying88 sz32 rfl (bnd_some rfl (by omega)) bnd_none (by omega) (by omega)) ?_; refine th_take (i := 22) (listed' := #[tt,tt,tt,tt,tt,tt,tt,tt,tt,tt,tt,tt,tt,tt,tt,tt,tt,tt,tt,tt,tt,tt,tt,ff,ff]) rfl (by kernel_rfl) (by kernel_rfl) (by kernel_rfl) rfl rfl (o_ixP Tryz.underlying112 sz116 rfl rfl (by first | omega | (simp only [bys_length, ints_length, wds_length, bos_length, List.length_append, List.length_take, List.length_drop, List.length_singleton]; omega)) (by repeat (first | exact nn_some | with_reducible exact nn_sl (by decide) | exact nn_rs (by assumption) (fun _ => by first | omega | (simp only [bys_length, ints_length, wds_length, bos_length, List.length_append, List.length_take, List.length_drop, List.length_singleton]; omega)) | apply Nn.left))) ?_
            refine th_take (i := 23) (listed' := #[tt,tt,tt,tt,tt,tt,tt,tt,tt,tt,tt,tt,tt,tt,tt,tt,tt,tt,tt,tt,tt,tt,tt,tt,ff]) rfl (by kernel_rfl) (by kernel_rfl) (by kernel_rfl) rfl rfl (o_faP (m := 0) (o := 0) Tryz.underlying116 rfl rfl sz88 rfl (by repeat (first | exact nn_some | with_reducible exact nn_sl (by decide) | exact nn_rs (by assumption) (fun _ => by first | omega | (simp only [bys_length, ints_length, wds_length, bos_length, List.length_append, List.length_take, List.length_drop, List.length_singleton]; omega)) | apply Nn.left))) ?_; refine th_one (i := 24) (by kernel_rfl) ?_; refine oh_u (i := 24) (listed' := #[tt,tt,tt,tt,tt,tt,tt,tt,tt,tt,tt,tt,tt,tt,tt,tt,tt,tt,tt,tt,tt,tt,tt,tt,tt]) rfl rfl rfl (o_stP (ys := (rls1.set i ⟨.slice (cutAddr (some ⟨ba, oa, none⟩) ca rls1[i].mark.toNat 1) (rls1[i].rows.length - rls1[i].mark.toNat) (ca - rls1[i].mark.toNat), rls1[i].rows.drop rls1[i].mark.toNat, rls1[i].mark⟩).flatMap rcl) sz88 rfl rfl rfl (by repeat (first | with_reducible exact ct_here | apply ct_left)) (by omega) (fm_set (f := rcl) (k := 2) (j := 0) (y := ⟨.slice (cutAddr (some ⟨ba, oa, none⟩) ca rls1[i].mark.toNat 1) (rls1[i].rows.length - rls1[i].mark.toNat) (ca - rls1[i].mark.toNat), rls1[i].rows.drop rls1[i].mark.toNat, rls1[i].mark⟩) (rcl_len _) hir (by decide) rfl rfl)) (by repeat (first | with_reducible exact dr_refl | apply dr_keep | apply dr_drop)) ?_; refine th_done (by kernel_rfl) ?_; refine q_then_n ?_
            have hir2 : i < (rls1.set i ⟨.slice (cutAddr (some ⟨ba, oa, none⟩) ca rls1[i].mark.toNat 1) (rls1[i].rows.length - rls1[i].mark.toNat) (ca - rls1[i].mark.toNat), rls1[i].rows.drop rls1[i].mark.toNat, rls1[i].mark⟩).length := by rw [List.length_set]; exact hir
            refine tc_reg ?_; refine tlm ?_; refine tv (o_nilCheck rfl) ?_; refine tv (o_fieldAddr (o := 1) Tryz.underlying114 rfl rfl sz112 rfl) ?_; refine tv (by first | exact o_load p112 rfl (by repeat (first | with_reducible exact has_here | with_reducible exact has_pt | apply has_left)) rfl | exact o_loadC p112 rfl (by assumption)) ?_; refine tlm ?_; refine tv (o_ixP Tryz.underlying112 sz116 rfl rfl (by first | omega | (simp only [bys_length, ints_length, wds_length, bos_length, List.length_append, List.length_take, List.length_drop, List.length_singleton]; omega)) (by repeat (first | exact nn_some | with_reducible exact nn_sl (by decide) | exact nn_rs (by assumption) (fun _ => by first | omega | (simp only [bys_length, ints_length, wds_length, bos_length, List.length_append, List.length_take, List.length_drop, List.length_singleton]; omega)) | apply Nn.left))) ?_; refine tv (o_faP (m := 0) (o := 1) Tryz.underlying116 rfl rfl sz3 rfl (by repeat (first | exact nn_some | with_reducible exact nn_sl (by decide) | exact nn_rs (by assumption) (fun _ => by first | omega | (simp only [bys_length, ints_length, wds_length, bos_length, List.length_append, List.length_take, List.length_drop, List.length_singleton]; omega)) | apply Nn.left))) ?_; refine tl_u rfl (o_stP (ys := (rls1.set i ⟨.slice (cutAddr (some ⟨ba, oa, none⟩) ca rls1[i].mark.toNat 1) (rls1[i].rows.length - rls1[i].mark.toNat) (ca - rls1[i].mark.toNat), rls1[i].rows.drop rls1[i].mark.toNat, -1⟩).flatMap rcl) sz3 rfl rfl rfl (by repeat (first | with_reducible exact ct_here | apply ct_left)) (by omega) ((fm_set (f := rcl) (k := 2) (j := 1) (y := ⟨.slice (cutAddr (some ⟨ba, oa, none⟩) ca rls1[i].mark.toNat 1) (rls1[i].rows.length - rls1[i].mark.toNat) (ca - rls1[i].mark.toNat), rls1[i].rows.drop rls1[i].mark.toNat, -1⟩) (rcl_len _) hir2 (by decide) rfl (by rw [List.getElem_set_self]; rfl)).trans (by rw [List.set_set]))) ?_
            have hnext : (rls1.set i ⟨.slice (cutAddr (some ⟨ba, oa, none⟩) ca rls1[i].mark.toNat 1) (rls1[i].rows.length - rls1[i].mark.toNat) (ca - rls1[i].mark.toNat), rls1[i].rows.drop rls1[i].mark.toNat, -1⟩).map RL.l = mp fenceL (i + 1) s.ls := by
              rw [List.map_set, hp1, ← mp_set fenceL hi]
              congr 1
              unfold fenceL
              rw [if_pos (by rw [← hmk]; exact h0), ← hmk, ← hla]
              simp [RL.l, List.map_drop]
            refine tl_pre (A' := F * RDevC r (.slice (some ⟨bl, ol, none⟩) s.ls.length cl_) (rls1.set i ⟨.slice (cutAddr (some ⟨ba, oa, none⟩) ca rls1[i].mark.toNat 1) (rls1[i].rows.length - rls1[i].mark.toNat) (ca - rls1[i].mark.toNat), rls1[i].rows.drop rls1[i].mark.toNat, -1⟩) av kvs { s with ls := mp fenceL (i + 1) s.ls }) (fun _ _ h => ?_) ?_
            · rw [← hf2 F ⟨.slice (cutAddr (some ⟨ba, oa, none⟩) ca rls1[i].mark.toNat 1) (rls1[i].rows.length - rls1[i].mark.toNat) (ca - rls1[i].mark.toNat), rls1[i].rows.drop rls1[i].mark.toNat, -1⟩ { s with ls := mp fenceL (i + 1) s.ls } (mp_length _ _ _) rfl rfl rfl rfl]
              have h1 := sl_cut (l := rls1[i].mark.toNat) (h.perm (star_swap _ _ _)) (by omega)
              rw [bs_split _ rls1[i].mark.toNat] at h1
              simp only [List.length_drop, List.map_drop, Nat.mul_one] at h1 ⊢
              exact (h1.perm (show _ = _ * Bs rowR (rls1[i].rows.take rls1[i].mark.toNat) by ac_rfl)).left
            refine tl_nil ?_; refine q_block_n (q_then_n ?_); refine tc_reg ?_; refine tlm ?_; refine tv (by first | exact o_addI rfl rfl (by omega) | exact o_add rfl rfl) ?_; refine tla ?_; refine nq ?_; exact ⟨_, by omega, i + 1, _, by omega, hnext, rfl, rfl, rfl, rfl⟩
        · have h0 : ¬ 0 ≤ rls1[i].mark := by simp at h; omega
          have hsame := mp_same fenceL hi (by unfold fenceL; rw [if_neg (by rw [← hmk]; exact h0)])
          have hnext : rls1.map RL.l = mp fenceL (i + 1) s.ls := by rw [hsame]; exact hp1
          refine tc_eq (show _ = F * RDevC r (.slice (some ⟨bl, ol, none⟩) s.ls.length cl_) rls1 av kvs { s with ls := mp fenceL (i + 1) s.ls } by rw [hsame]) ?_; refine tc_skip ?_; refine q_block_n (q_then_n ?_); refine tc_reg ?_; refine tlm ?_; refine tv (by first | exact o_addI rfl rfl (by omega) | exact o_add rfl rfl) ?_; refine tla ?_; refine nq ?_; exact ⟨_, by omega, i + 1, _, by omega, hnext, rfl, rfl, rfl, rfl⟩
      · obtain rfl : i = s.ls.length := by simp at h; omega
        have hfe : fenceS s = { s with ls := mp fenceL s.ls.length s.ls } := by unfold fenceS; rw [mp_map]
        refine tc_pre (rdev_back (mpF_wf hw) hp1 hkv) ?_
        rw [← hfe]
        refine tc_exit ?_; refine q_then_e (q_then_e (q_block_x (q_then_n ?_))); refine sr ?_; refine tlm ?_; refine tl_c rfl (o_call bd104 rfl (rdone_f F)) ?_; rintro _ _ ⟨rfl, rfl⟩; refine tla ?_; refine nq ?_; refine tc_ret ?_; exact ⟨.int .i64 (doneE (fenceS s)), F * RDev r (doneS (fenceS s)), res1 rfl rfl, Dr.sat (by repeat (first | with_reducible exact dr_refl | apply dr_keep | apply dr_drop)), rfl, rfl⟩
theorem rWake_f (F : SP) {r : Nat} {s : DevS} :
    Fn Tryz.prog 46 #[.pointer (some ⟨r, 0, none⟩)] (F * RDev r s) (fun v B => v = .int .i64 (if s.off then 0 else 3) ∧ B = F * RDev r { s with off := false }) := by
  refine fn_enterW (args := [.pointer (some ⟨r, 0, none⟩)]) Tryz.func46 rfl Tryz.ntmps46 (by simp) ?_; refine tc_rdev fun hw lv rls av kvs hmap hkv => ?_
  have hpos := hw.pos
  have htop := hw.top
  refine tc_have (fun _ _ h => rdevR_of hw hmap h) fun hR => ?_
  obtain ⟨bl, ol, cl_, rfl, hlc, hll⟩ := hR.lv
  have hlen := hR.len
  
  refine sr ?_; refine tla ?_; refine nq ?_; refine tc_seq ?_; refine sr ?_; refine tlm ?_; refine tv (o_nilCheck rfl) ?_; refine tv (o_fieldAddr (o := 5) Tryz.underlying114 rfl rfl sz4 rfl) ?_; refine tv (o_load p4 rfl (by repeat (first | exact rdevC_r | apply has_left)) rfl) ?_; refine tv (o_not rfl) ?_; refine nq ?_; refine tc_cond rfl (fun h => ?_) (fun h => ?_)
  · have hoff : s.off = false := by simpa using h
    have e : s = { s with off := false } := by rw [← hoff]
    refine sr ?_; refine tla ?_; refine nq ?_; refine tc_ret ?_; refine q_then_r ?_; exact ⟨.int .i64 3, F * RDev r { s with off := false }, res1 rfl rfl, by rw [← e]; exact rdev_back hw hmap hkv, by rw [hoff]; rfl, rfl⟩
  · have hoff : s.off = true := by simpa using h
    refine tc_skip ?_; refine q_then_n ?_; refine sr ?_; refine tlm ?_; refine tv (o_nilCheck rfl) ?_; refine tv (o_fieldAddr (o := 5) Tryz.underlying114 rfl rfl sz4 rfl) ?_; refine tl_u rfl (o_store sz4 rfl rfl rfl (by show 5 < 6; decide) rfl (rdevC_upd s.ops s.cnt false)) ?_; refine nq ?_; refine sr ?_; refine tla ?_; refine nq ?_; refine tc_ret ?_; exact ⟨.int .i64 0, F * RDev r { s with off := false }, res1 rfl rfl, rdev_back ⟨hw.pos, hw.top, hw.line, hw.arms, hw.after, hw.keeps⟩ hmap hkv, by rw [hoff]; rfl, rfl⟩
theorem rCrash_f (F : SP) {r c m : Nat} {s : DevS} {a : Option Addr} {keep : List Int} (hr : Rs F a (ints keep)) (hk : ∀ k ∈ keep, k ≤ 9223372036854775807) (hm : keep.length = m) (hkl : m ≤ 17592186044416) :
    Fn Tryz.prog 44 #[.pointer (some ⟨r, 0, none⟩), .slice a m c] (F * RDev r s) (fun v B => v = .int .i64 (crS keep s).1 ∧ B = F * RDev r (crS keep s).2) := by
  refine fn_enterW (args := [.pointer (some ⟨r, 0, none⟩), .slice a m c]) Tryz.func44 rfl Tryz.ntmps44 (by simp) ?_; refine tc_rdev fun hw lv rls av kvs hmap hkv => ?_
  have hpos := hw.pos
  have htop := hw.top
  refine tc_have (fun _ _ h => rdevR_of hw hmap h) fun hR => ?_
  obtain ⟨bl, ol, cl_, rfl, hlc, hll⟩ := hR.lv
  have hlen := hR.len
  
  refine sr ?_; refine tla ?_; refine nq ?_; refine tc_seq ?_; refine sr ?_; refine tlm ?_; refine tv (o_nilCheck rfl) ?_; refine tv (o_fieldAddr (o := 5) Tryz.underlying114 rfl rfl sz4 rfl) ?_; refine tv (o_load p4 rfl (by repeat (first | exact rdevC_r | apply has_left)) rfl) ?_; refine nq ?_; refine tc_cond rfl (fun h => ?_) (fun h => ?_)
  · try simp only [lv1, lv2, lv3, lv4, lv5, lv6, Bool.not_true, Bool.not_false] at h
    refine sr ?_; refine tla ?_; refine nq ?_; refine tc_ret ?_; refine q_then_r ?_
    have e : crS keep s = (5, s) := by unfold crS; rw [if_pos h]
    rw [e]
    exact ⟨.int .i64 5, F * RDev r s, res1 rfl rfl, rdev_back hw hmap hkv, rfl, rfl⟩
  · have hoff : s.off = false := by simpa using h
    refine tc_skip ?_; refine q_then_n ?_; refine tc_seq ?_; refine sr ?_; refine tlm ?_; refine tl_c rfl (o_call bd108 rfl (rbelow_c (xs := keep))) ?_; rintro _ _ ⟨rfl, rfl⟩; refine nq ?_; refine tc_cond rfl (fun h => ?_) (fun h => ?_)
    · try simp only [lv1, lv2, lv3, lv4, lv5, lv6, Bool.not_true, Bool.not_false] at h
      refine sr ?_; refine tla ?_; refine nq ?_; refine tc_ret ?_; refine q_then_r ?_
      have e : crS keep s = (2, s) := by unfold crS; rw [if_neg (by rw [hoff]; decide), if_pos h]
      rw [e]
      exact ⟨.int .i64 2, F * RDev r s, res1 rfl rfl, rdev_back hw hmap hkv, rfl, rfl⟩
    · have hlow : lowB keep = false := by simpa using h
      have e : crS keep s = (0, goesS keep s) := by unfold crS; rw [if_neg (by rw [hoff]; decide), if_neg (by rw [hlow]; decide)]
      rw [e]
      refine tc_pre (rdev_back hw hmap hkv) ?_
      subst hm
      refine tc_skip ?_; refine q_then_n ?_; refine sr ?_; refine tlm ?_; refine tlm ?_; refine tl_c rfl (o_call bd111 rfl (rgoes_f F hr (fun k hm => ⟨low_nn hlow k hm, hk k hm⟩) hkl)) ?_; rintro _ _ ⟨rfl, rfl⟩; refine nq ?_; refine sr ?_; refine tla ?_; refine nq ?_; refine tc_ret ?_; exact ⟨.int .i64 0, F * RDev r (goesS keep s), res1 rfl rfl, Dr.sat (by repeat (first | with_reducible exact dr_refl | apply dr_keep | apply dr_drop)), rfl, rfl⟩
set_option maxRecDepth 20000 in
set_option maxHeartbeats 1000000 in
theorem rArm_f (F : SP) {a : Option Addr} {c m r : Nat} {s : DevS} {kvs : List Value} {ars : List (Int × List Int)} (hr : RdA F a kvs ars) (hm : ars.length = m) (hl : m ≤ 17592186044416) (hk : ∀ x ∈ ars, (-9223372036854775808 ≤ x.1 ∧ x.1 ≤ 9223372036854775807) ∧ x.2.length ≤ 17592186044416 ∧ ∀ k ∈ x.2, k ≤ 9223372036854775807) :
    Fn Tryz.prog 42 #[.pointer (some ⟨r, 0, none⟩), .slice a m c] (F * RDev r s) (fun v B => v = .int .i64 (armS ars s).1 ∧ B = F * RDev r (armS ars s).2) := by
  refine fn_enterW (args := [.pointer (some ⟨r, 0, none⟩), .slice a m c]) Tryz.func42 rfl Tryz.ntmps42 (by simp) ?_; refine tc_rdev fun hw lv rls av kvs0 hmap hkv0 => ?_
  have hpos := hw.pos
  have htop := hw.top
  refine tc_have (fun _ _ h => rdevR_of hw hmap h) fun hR => ?_
  obtain ⟨bl, ol, cl_, rfl, hlc, hll⟩ := hR.lv
  have hlen := hR.len
  have ha64 := hw.arms
  have hrr : Rs F a (acs kvs ars) := hr.rd
  have hrl := acs_length hr.len
  refine sr ?_; refine tla ?_; refine nq ?_; refine tc_seq ?_; refine sr ?_; refine tlm ?_; refine tv (o_nilCheck rfl) ?_; refine tv (o_fieldAddr (o := 5) Tryz.underlying114 rfl rfl sz4 rfl) ?_; refine tv (o_load p4 rfl (by repeat (first | exact rdevC_r | apply has_left)) rfl) ?_; refine nq ?_; refine tc_cond rfl (fun h => ?_) (fun h => ?_)
  · try simp only [lv1, lv2, lv3, lv4, lv5, lv6, Bool.not_true, Bool.not_false] at h
    refine sr ?_; refine tla ?_; refine nq ?_; refine tc_ret ?_; refine q_then_r ?_
    have e : armS ars s = (5, s) := by unfold armS; rw [if_pos h]
    rw [e]
    exact ⟨.int .i64 5, F * RDev r s, res1 rfl rfl, rdev_back hw hmap hkv0, rfl, rfl⟩
  · have hoff : s.off = false := by simpa using h
    refine tc_skip ?_; refine q_then_n ?_; refine tc_seq ?_; refine sr ?_; refine tla ?_; refine nq ?_; refine tc_block ?_; refine tc_loop (fun kk ρ BB => ∃ (i : Nat), (i ≤ m) ∧ ((ars.take i).any badA = false) ∧ kk = m - i ∧ ρ 5 = .int .i64 (i : Nat) ∧ ρ 0 = .pointer (some ⟨r, 0, none⟩) ∧ ρ 1 = .slice a m c ∧ BB = F * RDevC r (.slice (some ⟨bl, ol, none⟩) s.ls.length cl_) rls av kvs0 s) (m := m - (0)) ?_ ?_
    · exact ⟨0, by omega, rfl, rfl, rfl, rfl, rfl, rfl⟩
    · intro k ρ B hI
      obtain ⟨i, hp0, hp1, hkk1, hE5, hE0, hE1, rfl⟩ := hI
      refine tc_env (d := 5) hE5 ?_; refine tc_env (d := 0) hE0 ?_; refine tc_env (d := 1) hE1 ?_
      clear hE5 hE0 hE1
      refine tc_seq ?_; refine sr ?_; refine tlm ?_; refine tlm ?_; refine tv (o_len Tryz.underlying48 rfl) ?_; refine tv (o_lss rfl rfl) ?_; refine nq ?_; refine tc_cond rfl (fun h => ?_) (fun h => ?_)
      · have hi : i < ars.length := by simp at h; omega
        obtain ⟨kb, kc, hkv, hkc, hkr⟩ := hr.keep i hi
        have g0 := acs_at0 hr.len hi
        have g1 := acs_at1 hr.len hi
        have hkv2 : kvs[i]'(by rw [hr.len]; exact hi) = .slice kb ars[i].2.length kc := by rw [List.getElem?_eq_getElem (by rw [hr.len]; exact hi)] at hkv; exact Option.some.inj hkv
        rw [hkv2] at g1
        have hke := hk _ (List.getElem_mem hi)
        refine tc_skip ?_; refine q_then_n ?_; refine tc_seq ?_; refine tc_block ?_; refine sr ?_; refine tlm ?_; refine tlm ?_; refine tv (o_ixP Tryz.underlying48 sz79 rfl rfl (by first | omega | (simp only [bys_length, ints_length, wds_length, bos_length, List.length_append, List.length_take, List.length_drop, List.length_singleton]; omega)) (by repeat (first | exact nn_some | with_reducible exact nn_sl (by decide) | exact nn_rs (by assumption) (fun _ => by first | omega | (simp only [bys_length, ints_length, wds_length, bos_length, List.length_append, List.length_take, List.length_drop, List.length_singleton]; omega)) | apply Nn.left))) ?_; refine tv (o_faP (m := 0) (o := 0) Tryz.underlying79 rfl rfl sz3 rfl (by repeat (first | exact nn_some | with_reducible exact nn_sl (by decide) | exact nn_rs (by assumption) (fun _ => by first | omega | (simp only [bys_length, ints_length, wds_length, bos_length, List.length_append, List.length_take, List.length_drop, List.length_singleton]; omega)) | apply Nn.left))) ?_; refine tv (o_ldP p3 rfl (by repeat (first | assumption | with_reducible exact rs_sl | with_reducible exact rs_pt0 | exact rs_none | apply Rs.left)) (by first | assumption | exact bys_at (by omega) | exact ints_at (by omega) | exact wds_at (by omega) | exact bos_at (by omega) | rfl)) ?_; refine tv (o_lss rfl rfl) ?_; refine tlm ?_; refine tl_bool (d := 23) rfl (fun h => ?_) (fun h => ?_)
        · try simp only [lv1, lv2, lv3, lv4, lv5, lv6, Bool.not_true, Bool.not_false] at h
          refine tk ?_; refine tk ?_; refine tk ?_; refine tk ?_; refine tk ?_; refine tk ?_; refine tv (o_pick_t rfl (by conv => lhs; whnf)) ?_; refine nq ?_; refine tc_cond_t rfl ?_; refine sr ?_; refine tla ?_; refine nq ?_; refine tc_ret ?_; refine q_block_r (q_then_r (q_then_r (q_block_r (q_then_r ?_))))
          have hs2 : armS ars s = (2, s) := by unfold armS; rw [if_neg (by rw [hoff]; decide), if_pos (any_at hi (by unfold badA; simp at h ⊢; first | exact h | exact .inl h | exact .inr h | omega))]
          rw [hs2]
          exact ⟨.int .i64 2, F * RDev r s, res1 rfl rfl, rdev_back hw hmap hkv0, rfl, rfl⟩
        · try simp only [lv1, lv2, lv3, lv4, lv5, lv6, Bool.not_true, Bool.not_false] at h
          refine tlm ?_; refine tlm ?_; refine tv (o_ixP Tryz.underlying48 sz79 rfl rfl (by first | omega | (simp only [bys_length, ints_length, wds_length, bos_length, List.length_append, List.length_take, List.length_drop, List.length_singleton]; omega)) (by repeat (first | exact nn_some | with_reducible exact nn_sl (by decide) | exact nn_rs (by assumption) (fun _ => by first | omega | (simp only [bys_length, ints_length, wds_length, bos_length, List.length_append, List.length_take, List.length_drop, List.length_singleton]; omega)) | apply Nn.left))) ?_; refine tv (o_faP (m := 0) (o := 1) Tryz.underlying79 rfl rfl sz34 rfl (by repeat (first | exact nn_some | with_reducible exact nn_sl (by decide) | exact nn_rs (by assumption) (fun _ => by first | omega | (simp only [bys_length, ints_length, wds_length, bos_length, List.length_append, List.length_take, List.length_drop, List.length_singleton]; omega)) | apply Nn.left))) ?_; refine tv (o_ldP p34 rfl (by repeat (first | assumption | with_reducible exact rs_sl | with_reducible exact rs_pt0 | exact rs_none | apply Rs.left)) (by first | assumption | exact bys_at (by omega) | exact ints_at (by omega) | exact wds_at (by omega) | exact bos_at (by omega) | rfl)) ?_; refine tl_c rfl (o_call bd108 rfl (rbelow_c (xs := ars[i].2))) ?_; rintro _ _ ⟨rfl, rfl⟩; refine tv (o_pick_f rfl (by conv => lhs; whnf)) ?_; refine nq ?_
          refine tc_cond rfl (fun h => ?_) (fun h => ?_)
          · try simp only [lv1, lv2, lv3, lv4, lv5, lv6, Bool.not_true, Bool.not_false] at h
            refine sr ?_; refine tla ?_; refine nq ?_; refine tc_ret ?_; refine q_block_r (q_then_r (q_then_r (q_block_r (q_then_r ?_))))
            have hs2 : armS ars s = (2, s) := by unfold armS; rw [if_neg (by rw [hoff]; decide), if_pos (any_at hi (by unfold badA; simp at h ⊢; first | exact h | exact .inl h | exact .inr h | omega))]
            rw [hs2]
            exact ⟨.int .i64 2, F * RDev r s, res1 rfl rfl, rdev_back hw hmap hkv0, rfl, rfl⟩
          · have hbad : badA ars[i] = false := by unfold badA; rw [Bool.or_eq_false_iff]; exact ⟨by simp; omega, h⟩
            refine tc_skip ?_; refine q_block_n (q_then_n ?_); refine tc_reg ?_; refine tlm ?_; refine tv (by first | exact o_addI rfl rfl (by omega) | exact o_add rfl rfl) ?_; refine tla ?_; refine nq ?_; exact ⟨_, by omega, i + 1, by omega, any_take hp1 hi hbad, rfl, rfl, rfl, rfl, rfl⟩
      · have hmi : m = i := by simp at h; omega
        subst hmi
        have hnb : ars.any badA = false := by rwa [List.take_of_length_le (by omega)] at hp1
        refine tc_have (fun _ _ h => rdevC_arms h) fun ⟨aa, ca, hav, _⟩ => ?_
        subst hav
        refine tc_exit ?_; refine q_then_e (q_then_e (q_block_x (q_then_n ?_))); refine tc_seq ?_; refine sr ?_; refine tlm ?_; refine tv (o_len Tryz.underlying48 rfl) ?_; refine tlm ?_; refine tv (o_nilCheck rfl) ?_; refine tv (o_fieldAddr (o := 3) Tryz.underlying114 rfl rfl sz48 rfl) ?_; refine tv (o_load p48 rfl (by repeat (first | exact rdevC_r | apply has_left)) rfl) ?_; refine tv (o_len Tryz.underlying48 rfl) ?_; refine tv (by first | exact o_addI rfl rfl (by omega) | exact o_add rfl rfl) ?_; refine tv (o_gtr rfl rfl) ?_; refine nq ?_; refine tc_cond rfl (fun h => ?_) (fun h => ?_)
        · try simp only [lv1, lv2, lv3, lv4, lv5, lv6, Bool.not_true, Bool.not_false] at h
          refine sr ?_; refine tla ?_; refine nq ?_; refine tc_ret ?_; refine q_then_r ?_
          have hs2 : armS ars s = (4, s) := by unfold armS; rw [if_neg (by rw [hoff]; decide), if_neg (by rw [hnb]; decide), if_pos (by omega)]
          rw [hs2]
          exact ⟨.int .i64 4, F * RDev r s, res1 rfl rfl, rdev_back hw hmap hkv0, rfl, rfl⟩
        · have hfit : ars.length + s.arms.length ≤ 64 := by simp at h; omega
          refine tc_pre (rdev_back hw hmap hkv0) ?_; refine tc_skip ?_; refine q_then_n ?_; refine tc_seq ?_; refine sr ?_; refine tla ?_; refine nq ?_; refine tc_block ?_; refine tc_loop (fun kk ρ BB => ∃ (i : Nat), (i ≤ m) ∧ kk = m - i ∧ ρ 6 = .int .i64 (i : Nat) ∧ ρ 0 = .pointer (some ⟨r, 0, none⟩) ∧ ρ 1 = .slice a m c ∧ BB = F * RDev r { s with arms := s.arms ++ ars.take i }) (m := m - (0)) ?_ ?_
          · exact ⟨0, by omega, rfl, rfl, rfl, rfl, by rw [List.take_zero, List.append_nil]⟩
          · intro k ρ B hI
            obtain ⟨i, hp0, hkk2, hE6, hE0, hE1, rfl⟩ := hI
            refine tc_env (d := 6) hE6 ?_; refine tc_env (d := 0) hE0 ?_; refine tc_env (d := 1) hE1 ?_
            clear hE6 hE0 hE1
            refine tc_seq ?_; refine sr ?_; refine tlm ?_; refine tlm ?_; refine tv (o_len Tryz.underlying48 rfl) ?_; refine tv (o_lss rfl rfl) ?_; refine nq ?_; refine tc_cond rfl (fun h => ?_) (fun h => ?_)
            · have hi : i < ars.length := by simp at h; omega
              obtain ⟨kb, kc, hkv, hkc, hkr⟩ := hr.keep i hi
              have g0 := acs_at0 hr.len hi
              have g1 := acs_at1 hr.len hi
              have hkv2 : kvs[i]'(by rw [hr.len]; exact hi) = .slice kb ars[i].2.length kc := by rw [List.getElem?_eq_getElem (by rw [hr.len]; exact hi)] at hkv; exact Option.some.inj hkv
              rw [hkv2] at g1
              have hke := hk _ (List.getElem_mem hi)
              refine tc_rdev fun hw2 lv2 rls2 av2 kvs2 hmap2 hkv3 => ?_; refine tc_have (fun _ _ h => rdevC_arms h) fun ⟨aa2, ca2, hav, _⟩ => ?_
              subst hav
              refine tc_eq (show _ = F * KeepsR kvs2 (s.arms ++ ars.take i) * Bs rlR rls2 * Sl 2 lv2 s.ls.length (rls2.flatMap rcl) * pt r (cl (rdcs lv2 { s with arms := s.arms ++ ars.take i } (.slice aa2 (s.arms ++ ars.take i).length ca2)) 114) * Sl 2 (.slice aa2 (s.arms ++ ars.take i).length ca2) (s.arms ++ ars.take i).length (acs kvs2 (s.arms ++ ars.take i)) by unfold RDevC ArmsR; ac_rfl) ?_; refine tc_skip ?_; refine q_then_n ?_; refine tc_seq ?_; refine tc_block ?_; refine tc_regh (S := F * KeepsR kvs2 (s.arms ++ ars.take i) * Bs rlR rls2) mo (by repeat (first | with_reducible exact dr_refl | apply dr_keep | apply dr_drop)) ?_
              show TH _ _ _ _ _ 22 #[ff,ff,ff,ff,ff,ff,ff,ff,ff,ff,ff,ff,ff,ff,ff,ff,ff,ff,ff,ff,ff,ff] _ _
              refine th_take (i := 0) (listed' := #[tt,ff,ff,ff,ff,ff,ff,ff,ff,ff,ff,ff,ff,ff,ff,ff,ff,ff,ff,ff,ff,ff]) rfl (by kernel_rfl) (by kernel_rfl) (by kernel_rfl) rfl rfl (o_move (by conv => lhs; whnf)) ?_; refine th_take (i := 1) (listed' := #[tt,tt,ff,ff,ff,ff,ff,ff,ff,ff,ff,ff,ff,ff,ff,ff,ff,ff,ff,ff,ff,ff]) rfl (by kernel_rfl) (by kernel_rfl) (by kernel_rfl) rfl rfl (o_move (by conv => lhs; whnf)) ?_; refine th_take (i := 2) (listed' := #[tt,tt,tt,ff,ff,ff,ff,ff,ff,ff,ff,ff,ff,ff,ff,ff,ff,ff,ff,ff,ff,ff]) rfl (by kernel_rfl) (by kernel_rfl) (by kernel_rfl) rfl rfl (o_nilCheck rfl) ?_; refine th_take (i := 3) (listed' := #[tt,tt,tt,tt,ff,ff,ff,ff,ff,ff,ff,ff,ff,ff,ff,ff,ff,ff,ff,ff,ff,ff]) rfl (by kernel_rfl) (by kernel_rfl) (by kernel_rfl) rfl rfl (o_fieldAddr (o := 3) Tryz.underlying114 rfl rfl sz48 rfl) ?_; refine th_take (i := 5) (listed' := #[tt,tt,tt,tt,ff,tt,ff,ff,ff,ff,ff,ff,ff,ff,ff,ff,ff,ff,ff,ff,ff,ff]) rfl (by kernel_rfl) (by kernel_rfl) (by kernel_rfl) rfl rfl (o_move (by conv => lhs; whnf)) ?_; refine th_take (i := 6) (listed' := #[tt,tt,tt,tt,ff,tt,tt,ff,ff,ff,ff,ff,ff,ff,ff,ff,ff,ff,ff,ff,ff,ff]) rfl (by kernel_rfl) (by kernel_rfl) (by kernel_rfl) rfl rfl (o_move (by conv => lhs; whnf)) ?_; refine th_take (i := 7) (listed' := #[tt,tt,tt,tt,ff,tt,tt,tt,ff,ff,ff,ff,ff,ff,ff,ff,ff,ff,ff,ff,ff,ff]) rfl (by kernel_rfl) (by kernel_rfl) (by kernel_rfl) rfl rfl (o_ixP Tryz.underlying48 sz79 rfl rfl (by first | omega | (simp only [bys_length, ints_length, wds_length, bos_length, List.length_append, List.length_take, List.length_drop, List.length_singleton]; omega)) (by repeat (first | exact nn_some | with_reducible exact nn_sl (by decide) | exact nn_rs (by assumption) (fun _ => by first | omega | (simp only [bys_length, ints_length, wds_length, bos_length, List.length_append, List.length_take, List.length_drop, List.length_singleton]; omega)) | apply Nn.left))) ?_
              refine th_take (i := 8) (listed' := #[tt,tt,tt,tt,ff,tt,tt,tt,tt,ff,ff,ff,ff,ff,ff,ff,ff,ff,ff,ff,ff,ff]) rfl (by kernel_rfl) (by kernel_rfl) (by kernel_rfl) rfl rfl (o_faP (m := 0) (o := 0) Tryz.underlying79 rfl rfl sz3 rfl (by repeat (first | exact nn_some | with_reducible exact nn_sl (by decide) | exact nn_rs (by assumption) (fun _ => by first | omega | (simp only [bys_length, ints_length, wds_length, bos_length, List.length_append, List.length_take, List.length_drop, List.length_singleton]; omega)) | apply Nn.left))) ?_; refine th_take (i := 9) (listed' := #[tt,tt,tt,tt,ff,tt,tt,tt,tt,tt,ff,ff,ff,ff,ff,ff,ff,ff,ff,ff,ff,ff]) rfl (by kernel_rfl) (by kernel_rfl) (by kernel_rfl) rfl rfl (o_ldP p3 rfl (by repeat (first | assumption | with_reducible exact rs_sl | with_reducible exact rs_pt0 | exact rs_none | apply Rs.left)) (by first | assumption | exact bys_at (by omega) | exact ints_at (by omega) | exact wds_at (by omega) | exact bos_at (by omega) | rfl)) ?_; refine th_take (i := 10) (listed' := #[tt,tt,tt,tt,ff,tt,tt,tt,tt,tt,tt,ff,ff,ff,ff,ff,ff,ff,ff,ff,ff,ff]) rfl (by kernel_rfl) (by kernel_rfl) (by kernel_rfl) rfl rfl (o_move (by conv => lhs; whnf)) ?_; refine th_take (i := 11) (listed' := #[tt,tt,tt,tt,ff,tt,tt,tt,tt,tt,tt,tt,ff,ff,ff,ff,ff,ff,ff,ff,ff,ff]) rfl (by kernel_rfl) (by kernel_rfl) (by kernel_rfl) rfl rfl (o_move (by conv => lhs; whnf)) ?_; refine th_take (i := 12) (listed' := #[tt,tt,tt,tt,ff,tt,tt,tt,tt,tt,tt,tt,tt,ff,ff,ff,ff,ff,ff,ff,ff,ff]) rfl (by kernel_rfl) (by kernel_rfl) (by kernel_rfl) rfl rfl (o_ixP Tryz.underlying48 sz79 rfl rfl (by first | omega | (simp only [bys_length, ints_length, wds_length, bos_length, List.length_append, List.length_take, List.length_drop, List.length_singleton]; omega)) (by repeat (first | exact nn_some | with_reducible exact nn_sl (by decide) | exact nn_rs (by assumption) (fun _ => by first | omega | (simp only [bys_length, ints_length, wds_length, bos_length, List.length_append, List.length_take, List.length_drop, List.length_singleton]; omega)) | apply Nn.left))) ?_
              refine th_take (i := 13) (listed' := #[tt,tt,tt,tt,ff,tt,tt,tt,tt,tt,tt,tt,tt,tt,ff,ff,ff,ff,ff,ff,ff,ff]) rfl (by kernel_rfl) (by kernel_rfl) (by kernel_rfl) rfl rfl (o_faP (m := 0) (o := 1) Tryz.underlying79 rfl rfl sz34 rfl (by repeat (first | exact nn_some | with_reducible exact nn_sl (by decide) | exact nn_rs (by assumption) (fun _ => by first | omega | (simp only [bys_length, ints_length, wds_length, bos_length, List.length_append, List.length_take, List.length_drop, List.length_singleton]; omega)) | apply Nn.left))) ?_; refine th_take (i := 14) (listed' := #[tt,tt,tt,tt,ff,tt,tt,tt,tt,tt,tt,tt,tt,tt,tt,ff,ff,ff,ff,ff,ff,ff]) rfl (by kernel_rfl) (by kernel_rfl) (by kernel_rfl) rfl rfl (o_ldP p34 rfl (by repeat (first | assumption | with_reducible exact rs_sl | with_reducible exact rs_pt0 | exact rs_none | apply Rs.left)) (by first | assumption | exact bys_at (by omega) | exact ints_at (by omega) | exact wds_at (by omega) | exact bos_at (by omega) | rfl)) ?_; refine th_two (i := 4) (j := 15) (by kernel_rfl) ?_ ?_
              · skip
                refine oh_v (i := 4) (listed' := #[tt,tt,tt,tt,tt,tt,tt,tt,tt,tt,tt,tt,tt,tt,tt,ff,ff,ff,ff,ff,ff,ff]) rfl rfl rfl (o_load p48 rfl (by repeat (first | with_reducible exact has_here | with_reducible exact has_pt | apply has_left)) rfl) ?_; refine th_one (i := 15) (by kernel_rfl) ?_; refine oh_c (i := 15) (listed' := #[tt,tt,tt,tt,tt,tt,tt,tt,tt,tt,tt,tt,tt,tt,tt,tt,ff,ff,ff,ff,ff,ff]) rfl rfl rfl (o_call bd109 rfl (CopyInts_c (xs := ars[i].2))) ?_; rintro _ _ ⟨a61, c61, rfl, hc61, rfl⟩; refine ⟨by repeat (first | with_reducible exact dr_refl | apply dr_keep | apply dr_drop), ?_⟩; refine th_take (i := 16) (listed' := #[tt,tt,tt,tt,tt,tt,tt,tt,tt,tt,tt,tt,tt,tt,tt,tt,tt,ff,ff,ff,ff,ff]) rfl (by kernel_rfl) (by kernel_rfl) (by kernel_rfl) rfl rfl (o_bS (l := [_, _]) (pv_cons (by conv => lhs; whnf) (pv_cons (by conv => lhs; whnf) pv_nil)) Tryz.underlying79 z79 (pl79 Tryz.underlying79) rfl) ?_; refine th_one (i := 17) (by kernel_rfl) ?_; refine oh_x (i := 17) (listed' := #[tt,tt,tt,tt,tt,tt,tt,tt,tt,tt,tt,tt,tt,tt,tt,tt,tt,tt,ff,ff,ff,ff]) rfl rfl rfl (o_buildSliceK Tryz.underlying48 sz79 z79 rfl (by first | rfl | simp) (by decide)) ?_; rintro _ _ ⟨b63, rfl, rfl⟩; refine ⟨by repeat (first | with_reducible exact dr_refl | apply dr_keep | apply dr_drop), ?_⟩; refine th_one (i := 18) (by kernel_rfl) ?_; refine oh_x (i := 18) (listed' := #[tt,tt,tt,tt,tt,tt,tt,tt,tt,tt,tt,tt,tt,tt,tt,tt,tt,tt,tt,ff,ff,ff]) rfl rfl rfl (o_apB Tryz.underlying48 Tryz.underlying48 sz79 by79 z79 rfl (by decide) (by decide) rfl rfl rfl (by repeat (first | with_reducible exact ct_here | apply ct_left)) rfl (by first | exact bys_all _ | exact ints_all _ | exact wds_all _ | exact bos_all _ | rfl) (by first | omega | (simp only [bys_length, ints_length, wds_length, bos_length, List.length_append, List.length_take, List.length_drop, List.length_singleton]; omega)) (by first | exact bys_sn _ _ | exact ints_sn _ _ | exact wds_sn _ _ | exact bos_sn _ _ | exact (bys_append _ _).symm | rfl)) ?_
                rintro _ _ ⟨a64, c64, rfl, hc64, rfl⟩; refine ⟨by repeat (first | with_reducible exact dr_refl | apply dr_keep | apply dr_drop), ?_⟩; refine th_take (i := 19) (listed' := #[tt,tt,tt,tt,tt,tt,tt,tt,tt,tt,tt,tt,tt,tt,tt,tt,tt,tt,tt,tt,ff,ff]) rfl (by kernel_rfl) (by kernel_rfl) (by kernel_rfl) rfl rfl (o_nilCheck rfl) ?_; refine th_take (i := 20) (listed' := #[tt,tt,tt,tt,tt,tt,tt,tt,tt,tt,tt,tt,tt,tt,tt,tt,tt,tt,tt,tt,tt,ff]) rfl (by kernel_rfl) (by kernel_rfl) (by kernel_rfl) rfl rfl (o_fieldAddr (o := 3) Tryz.underlying114 rfl rfl sz48 rfl) ?_; refine th_one (i := 21) (by kernel_rfl) ?_; refine oh_u (i := 21) (listed' := #[tt,tt,tt,tt,tt,tt,tt,tt,tt,tt,tt,tt,tt,tt,tt,tt,tt,tt,tt,tt,tt,tt]) rfl rfl rfl (o_stU (l' := rdcs lv2 { s with arms := s.arms ++ ars.take i } (.slice a64 ((s.arms ++ ars.take i).length + 1) c64)) rfl (by repeat (first | with_reducible exact upd_here | with_reducible exact upd_pt | apply upd_left)) sz48 rfl rfl (by show 3 < 6; decide) rfl) (by repeat (first | with_reducible exact dr_refl | apply dr_keep | apply dr_drop)) ?_; refine th_done (by kernel_rfl) ?_; refine q_block_n (q_then_n ?_)
                have hw3 : WfD { { s with arms := s.arms ++ ars.take i } with arms := { s with arms := s.arms ++ ars.take i }.arms ++ [ars[i]] } := by
                  show WfD { s with arms := (s.arms ++ ars.take i) ++ [ars[i]] }
                  rw [List.append_assoc, ← List.take_succ_eq_append_getElem hi]
                  exact arm_wf hw (by rw [List.length_take]; omega) (by rw [List.any_eq_false] at hnb ⊢; exact fun x hx => hnb x (List.mem_of_mem_take hx)) (fun x hx => by have := hk x (List.mem_of_mem_take hx); exact ⟨this.1.2, this.2⟩)
                refine tc_pre (A' := F * RDev r { { s with arms := s.arms ++ ars.take i } with arms := { s with arms := s.arms ++ ars.take i }.arms ++ [ars[i]] }) (fun _ _ h => rarm_back (F := F) (r := r) (J := emp) (v := .slice a61 ars[i].2.length c61) (av := .slice a64 ((s.arms ++ ars.take i).length + 1) c64) hw3 hmap2 hkv3 (h.perm (by rw [star_emp]; first | rfl | ac_rfl))) ?_; refine tc_reg ?_; refine tlm ?_; refine tv (by first | exact o_addI rfl rfl (by omega) | exact o_add rfl rfl) ?_; refine tla ?_; refine nq ?_; exact ⟨_, by omega, i + 1, by omega, rfl, rfl, rfl, rfl, by rw [List.take_succ_eq_append_getElem hi, ← List.append_assoc]⟩
              · skip
                refine oh_c (i := 15) (listed' := #[tt,tt,tt,tt,ff,tt,tt,tt,tt,tt,tt,tt,tt,tt,tt,tt,ff,ff,ff,ff,ff,ff]) rfl rfl rfl (o_call bd109 rfl (CopyInts_c (xs := ars[i].2))) ?_; rintro _ _ ⟨a61, c61, rfl, hc61, rfl⟩; refine ⟨by repeat (first | with_reducible exact dr_refl | apply dr_keep | apply dr_drop), ?_⟩; refine th_take (i := 16) (listed' := #[tt,tt,tt,tt,ff,tt,tt,tt,tt,tt,tt,tt,tt,tt,tt,tt,tt,ff,ff,ff,ff,ff]) rfl (by kernel_rfl) (by kernel_rfl) (by kernel_rfl) rfl rfl (o_bS (l := [_, _]) (pv_cons (by conv => lhs; whnf) (pv_cons (by conv => lhs; whnf) pv_nil)) Tryz.underlying79 z79 (pl79 Tryz.underlying79) rfl) ?_; refine th_two (i := 4) (j := 17) (by kernel_rfl) ?_ ?_
                · skip
                  refine oh_v (i := 4) (listed' := #[tt,tt,tt,tt,tt,tt,tt,tt,tt,tt,tt,tt,tt,tt,tt,tt,tt,ff,ff,ff,ff,ff]) rfl rfl rfl (o_load p48 rfl (by repeat (first | with_reducible exact has_here | with_reducible exact has_pt | apply has_left)) rfl) ?_; refine th_one (i := 17) (by kernel_rfl) ?_; refine oh_x (i := 17) (listed' := #[tt,tt,tt,tt,tt,tt,tt,tt,tt,tt,tt,tt,tt,tt,tt,tt,tt,tt,ff,ff,ff,ff]) rfl rfl rfl (o_buildSliceK Tryz.underlying48 sz79 z79 rfl (by first | rfl | simp) (by decide)) ?_; rintro _ _ ⟨b63, rfl, rfl⟩; refine ⟨by repeat (first | with_reducible exact dr_refl | apply dr_keep | apply dr_drop), ?_⟩; refine th_one (i := 18) (by kernel_rfl) ?_; refine oh_x (i := 18) (listed' := #[tt,tt,tt,tt,tt,tt,tt,tt,tt,tt,tt,tt,tt,tt,tt,tt,tt,tt,tt,ff,ff,ff]) rfl rfl rfl (o_apB Tryz.underlying48 Tryz.underlying48 sz79 by79 z79 rfl (by decide) (by decide) rfl rfl rfl (by repeat (first | with_reducible exact ct_here | apply ct_left)) rfl (by first | exact bys_all _ | exact ints_all _ | exact wds_all _ | exact bos_all _ | rfl) (by first | omega | (simp only [bys_length, ints_length, wds_length, bos_length, List.length_append, List.length_take, List.length_drop, List.length_singleton]; omega)) (by first | exact bys_sn _ _ | exact ints_sn _ _ | exact wds_sn _ _ | exact bos_sn _ _ | exact (bys_append _ _).symm | rfl)) ?_; rintro _ _ ⟨a64, c64, rfl, hc64, rfl⟩; refine ⟨by repeat (first | with_reducible exact dr_refl | apply dr_keep | apply dr_drop), ?_⟩
                  refine th_take (i := 19) (listed' := #[tt,tt,tt,tt,tt,tt,tt,tt,tt,tt,tt,tt,tt,tt,tt,tt,tt,tt,tt,tt,ff,ff]) rfl (by kernel_rfl) (by kernel_rfl) (by kernel_rfl) rfl rfl (o_nilCheck rfl) ?_; refine th_take (i := 20) (listed' := #[tt,tt,tt,tt,tt,tt,tt,tt,tt,tt,tt,tt,tt,tt,tt,tt,tt,tt,tt,tt,tt,ff]) rfl (by kernel_rfl) (by kernel_rfl) (by kernel_rfl) rfl rfl (o_fieldAddr (o := 3) Tryz.underlying114 rfl rfl sz48 rfl) ?_; refine th_one (i := 21) (by kernel_rfl) ?_; refine oh_u (i := 21) (listed' := #[tt,tt,tt,tt,tt,tt,tt,tt,tt,tt,tt,tt,tt,tt,tt,tt,tt,tt,tt,tt,tt,tt]) rfl rfl rfl (o_stU (l' := rdcs lv2 { s with arms := s.arms ++ ars.take i } (.slice a64 ((s.arms ++ ars.take i).length + 1) c64)) rfl (by repeat (first | with_reducible exact upd_here | with_reducible exact upd_pt | apply upd_left)) sz48 rfl rfl (by show 3 < 6; decide) rfl) (by repeat (first | with_reducible exact dr_refl | apply dr_keep | apply dr_drop)) ?_; refine th_done (by kernel_rfl) ?_; refine q_block_n (q_then_n ?_)
                  have hw3 : WfD { { s with arms := s.arms ++ ars.take i } with arms := { s with arms := s.arms ++ ars.take i }.arms ++ [ars[i]] } := by
                    show WfD { s with arms := (s.arms ++ ars.take i) ++ [ars[i]] }
                    rw [List.append_assoc, ← List.take_succ_eq_append_getElem hi]
                    exact arm_wf hw (by rw [List.length_take]; omega) (by rw [List.any_eq_false] at hnb ⊢; exact fun x hx => hnb x (List.mem_of_mem_take hx)) (fun x hx => by have := hk x (List.mem_of_mem_take hx); exact ⟨this.1.2, this.2⟩)
                  refine tc_pre (A' := F * RDev r { { s with arms := s.arms ++ ars.take i } with arms := { s with arms := s.arms ++ ars.take i }.arms ++ [ars[i]] }) (fun _ _ h => rarm_back (F := F) (r := r) (J := emp) (v := .slice a61 ars[i].2.length c61) (av := .slice a64 ((s.arms ++ ars.take i).length + 1) c64) hw3 hmap2 hkv3 (h.perm (by rw [star_emp]; first | rfl | ac_rfl))) ?_; refine tc_reg ?_; refine tlm ?_; refine tv (by first | exact o_addI rfl rfl (by omega) | exact o_add rfl rfl) ?_; refine tla ?_; refine nq ?_; exact ⟨_, by omega, i + 1, by omega, rfl, rfl, rfl, rfl, by rw [List.take_succ_eq_append_getElem hi, ← List.append_assoc]⟩
                · skip
                  refine oh_x (i := 17) (listed' := #[tt,tt,tt,tt,ff,tt,tt,tt,tt,tt,tt,tt,tt,tt,tt,tt,tt,tt,ff,ff,ff,ff]) rfl rfl rfl (o_buildSliceK Tryz.underlying48 sz79 z79 rfl (by first | rfl | simp) (by decide)) ?_; rintro _ _ ⟨b63, rfl, rfl⟩; refine ⟨by repeat (first | with_reducible exact dr_refl | apply dr_keep | apply dr_drop), ?_⟩; refine th_one (i := 4) (by kernel_rfl) ?_; refine oh_v (i := 4) (listed' := #[tt,tt,tt,tt,tt,tt,tt,tt,tt,tt,tt,tt,tt,tt,tt,tt,tt,tt,ff,ff,ff,ff]) rfl rfl rfl (o_load p48 rfl (by repeat (first | with_reducible exact has_here | with_reducible exact has_pt | apply has_left)) rfl) ?_; refine th_one (i := 18) (by kernel_rfl) ?_; refine oh_x (i := 18) (listed' := #[tt,tt,tt,tt,tt,tt,tt,tt,tt,tt,tt,tt,tt,tt,tt,tt,tt,tt,tt,ff,ff,ff]) rfl rfl rfl (o_apB Tryz.underlying48 Tryz.underlying48 sz79 by79 z79 rfl (by decide) (by decide) rfl rfl rfl (by repeat (first | with_reducible exact ct_here | apply ct_left)) rfl (by first | exact bys_all _ | exact ints_all _ | exact wds_all _ | exact bos_all _ | rfl) (by first | omega | (simp only [bys_length, ints_length, wds_length, bos_length, List.length_append, List.length_take, List.length_drop, List.length_singleton]; omega)) (by first | exact bys_sn _ _ | exact ints_sn _ _ | exact wds_sn _ _ | exact bos_sn _ _ | exact (bys_append _ _).symm | rfl)) ?_; rintro _ _ ⟨a64, c64, rfl, hc64, rfl⟩; refine ⟨by repeat (first | with_reducible exact dr_refl | apply dr_keep | apply dr_drop), ?_⟩
                  refine th_take (i := 19) (listed' := #[tt,tt,tt,tt,tt,tt,tt,tt,tt,tt,tt,tt,tt,tt,tt,tt,tt,tt,tt,tt,ff,ff]) rfl (by kernel_rfl) (by kernel_rfl) (by kernel_rfl) rfl rfl (o_nilCheck rfl) ?_; refine th_take (i := 20) (listed' := #[tt,tt,tt,tt,tt,tt,tt,tt,tt,tt,tt,tt,tt,tt,tt,tt,tt,tt,tt,tt,tt,ff]) rfl (by kernel_rfl) (by kernel_rfl) (by kernel_rfl) rfl rfl (o_fieldAddr (o := 3) Tryz.underlying114 rfl rfl sz48 rfl) ?_; refine th_one (i := 21) (by kernel_rfl) ?_; refine oh_u (i := 21) (listed' := #[tt,tt,tt,tt,tt,tt,tt,tt,tt,tt,tt,tt,tt,tt,tt,tt,tt,tt,tt,tt,tt,tt]) rfl rfl rfl (o_stU (l' := rdcs lv2 { s with arms := s.arms ++ ars.take i } (.slice a64 ((s.arms ++ ars.take i).length + 1) c64)) rfl (by repeat (first | with_reducible exact upd_here | with_reducible exact upd_pt | apply upd_left)) sz48 rfl rfl (by show 3 < 6; decide) rfl) (by repeat (first | with_reducible exact dr_refl | apply dr_keep | apply dr_drop)) ?_; refine th_done (by kernel_rfl) ?_; refine q_block_n (q_then_n ?_)
                  have hw3 : WfD { { s with arms := s.arms ++ ars.take i } with arms := { s with arms := s.arms ++ ars.take i }.arms ++ [ars[i]] } := by
                    show WfD { s with arms := (s.arms ++ ars.take i) ++ [ars[i]] }
                    rw [List.append_assoc, ← List.take_succ_eq_append_getElem hi]
                    exact arm_wf hw (by rw [List.length_take]; omega) (by rw [List.any_eq_false] at hnb ⊢; exact fun x hx => hnb x (List.mem_of_mem_take hx)) (fun x hx => by have := hk x (List.mem_of_mem_take hx); exact ⟨this.1.2, this.2⟩)
                  refine tc_pre (A' := F * RDev r { { s with arms := s.arms ++ ars.take i } with arms := { s with arms := s.arms ++ ars.take i }.arms ++ [ars[i]] }) (fun _ _ h => rarm_back (F := F) (r := r) (J := emp) (v := .slice a61 ars[i].2.length c61) (av := .slice a64 ((s.arms ++ ars.take i).length + 1) c64) hw3 hmap2 hkv3 (h.perm (by rw [star_emp]; first | rfl | ac_rfl))) ?_; refine tc_reg ?_; refine tlm ?_; refine tv (by first | exact o_addI rfl rfl (by omega) | exact o_add rfl rfl) ?_; refine tla ?_; refine nq ?_; exact ⟨_, by omega, i + 1, by omega, rfl, rfl, rfl, rfl, by rw [List.take_succ_eq_append_getElem hi, ← List.append_assoc]⟩
            · try simp only [lv1, lv2, lv3, lv4, lv5, lv6, Bool.not_true, Bool.not_false] at h
              refine tc_exit ?_; refine q_then_e (q_then_e (q_block_x (q_then_n ?_))); refine sr ?_; refine tla ?_; refine nq ?_; refine tc_ret ?_
              obtain rfl : m = i := by omega
              have hs2 : armS ars s = (0, { s with arms := s.arms ++ ars }) := by unfold armS; rw [if_neg (by rw [hoff]; decide), if_neg (by rw [hnb]; decide), if_neg (by omega)]
              rw [hs2, List.take_of_length_le (show ars.length ≤ m by omega)]
              exact ⟨.int .i64 0, F * RDev r { s with arms := s.arms ++ ars }, res1 rfl rfl, Dr.sat (by repeat (first | with_reducible exact dr_refl | apply dr_keep | apply dr_drop)), rfl, rfl⟩
end Go.Vl

set_option linter.unusedVariables false
set_option linter.unusedSimpArgs false
namespace Go.Vl
open Go Go.Proofs
theorem img_getR {s : DevS} {q : Nat} (hw : WfD s) (hi : q / 64 < s.ls.length) : (imgS s)[q]? = (lb (seenL s.ls[q / 64]))[q % 64]? := by
  have hwl := hw.line _ (List.getElem_mem hi)
  have h8 := seen8 hwl
  have e := img_at hw.line hi
  have h1 : (imgS s)[q]? = ((imgS s).drop (q / 64 * 64))[q % 64]? := by rw [List.getElem?_drop]; congr 1; omega
  rw [h1]; unfold imgS; rw [e, List.getElem?_append_left (by omega)]
theorem fromS_len (n : Nat) (xs : List Nat) : (fromS n xs).ls.length = n := by simp [fromS, newS]
theorem fromS_at {n : Nat} (xs : List Nat) {i : Nat} (h : i < n) : (fromS n xs).ls[i]'(by rw [fromS_len]; exact h) = lineF xs i := by simp [fromS]
theorem bys_rep (k : Nat) : List.replicate k (.int .u8 0) = bys (List.replicate k 0) := by simp [bys, b8]
attribute [local irreducible] Sl pt ro
theorem CopyRows_c {A : SP} {a : Option Addr} {c m : Nat} {vs : List Value} {ls : List (List Nat)} (hr : Rs A a vs) (hv : vs.length = ls.length) (hrow : ∀ i (h : i < ls.length), ∃ b c, vs[i]? = some (.slice b ls[i].length c) ∧ Rs A b (bys ls[i])) (hm : ls.length = m) (hl : m ≤ 2199023255552) (hll : ∀ l ∈ ls, l.length ≤ 140737488351232) :
    Fn Tryz.prog 115 #[.slice a m c] (A) (fun v B => ∃ a c vs, v = .slice a m c ∧ m ≤ c ∧ B = A * Parts vs ls * Sl 1 (.slice a m c) m vs) := by
  refine fn_enterW (args := [.slice a m c]) Tryz.func115 rfl Tryz.ntmps115 (by simp) ?_; refine sr ?_; refine tla ?_; refine nq ?_; refine sr ?_; refine tla ?_; refine nq ?_; refine tc_seq ?_; refine tc_seq ?_; refine tc_pre (A' := A * Parts [] [] * Sl 1 (.slice none 0 0) 0 []) (fun _ _ h => by rw [show Parts [] [] = emp from rfl, star_emp]; exact sl_nil h) ?_; refine tc_reg ?_; refine tla ?_; refine nq ?_; refine tc_block ?_; refine tc_loop (fun kk ρ BB => ∃ (i : Nat) (a3 : Option Addr) (c3 : Nat) (vs2 : List Value), (i ≤ m) ∧ (vs2.length = i) ∧ (i ≤ c3) ∧ kk = m - i ∧ ρ 3 = .slice a3 i c3 ∧ ρ 4 = .int .i64 (i : Nat) ∧ ρ 0 = .slice a m c ∧ BB = A * Parts vs2 (ls.take i) * Sl 1 (.slice a3 i c3) i vs2) (m := m - (0)) ?_ ?_
  · exact ⟨0, none, 0, [], by omega, rfl, by omega, rfl, rfl, rfl, rfl, rfl⟩
  · intro k ρ B hI
    obtain ⟨i, a3, c3, vs2, hp0, hp1, hp2, hkk1, hE3, hE4, hE0, rfl⟩ := hI
    refine tc_env (d := 3) hE3 ?_; refine tc_env (d := 4) hE4 ?_; refine tc_env (d := 0) hE0 ?_
    clear hE3 hE4 hE0
    refine tc_seq ?_; refine sr ?_; refine tlm ?_; refine tlm ?_; refine tv (o_len Tryz.underlying88 rfl) ?_; refine tv (o_lss rfl rfl) ?_; refine nq ?_; refine tc_cond rfl (fun h => ?_) (fun h => ?_)
    · have hi : i < ls.length := by simp at h; omega
      obtain ⟨b, cb, g1, hrr⟩ := hrow i hi
      have hln := hll _ (List.getElem_mem hi)
      refine tc_skip ?_; refine q_then_n ?_; refine tc_seq ?_; refine tc_block ?_; refine tc_reg ?_; refine tlm ?_; refine tlm ?_; refine tlm ?_; refine tv (o_ixP1 Tryz.underlying88 sz32 rfl rfl (by omega) (nn_rs hr.left.left (fun _ => by omega))) ?_; refine tv (o_ldP p32 rfl hr.left.left g1) ?_; refine tl_c rfl (o_call bd35 rfl (CopyBytes_c (xs := ls[i]) (hr := hrr.left.left))) ?_; rintro _ _ ⟨a16, c16, rfl, hc16, rfl⟩; refine tl_x rfl (o_buildSlice1 Tryz.underlying88 sz32 z32 (by conv => lhs; whnf) rfl) ?_; rintro _ _ ⟨b17, rfl, rfl⟩; refine tl_x rfl (o_apB Tryz.underlying88 Tryz.underlying88 sz32 by32 z32 rfl (by decide) (by decide) rfl rfl rfl (by repeat (first | with_reducible exact ct_here | apply ct_left)) rfl (by first | exact bys_all _ | exact ints_all _ | exact wds_all _ | exact bos_all _ | rfl) (by first | omega | (simp only [bys_length, ints_length, wds_length, bos_length, List.length_append, List.length_take, List.length_drop, List.length_singleton]; omega)) (by first | exact bys_sn _ _ | exact ints_sn _ _ | exact wds_sn _ _ | exact bos_sn _ _ | exact (bys_append _ _).symm | rfl)) ?_; rintro _ _ ⟨a18, c18, rfl, hc18, rfl⟩; refine tla ?_; refine tl_nil ?_; refine q_block_n (q_then_n ?_); refine tc_reg ?_; refine tlm ?_; refine tv (by first | exact o_addI rfl rfl (by omega) | exact o_add rfl rfl) ?_; refine tla ?_; refine nq ?_; exact ⟨_, by omega, i + 1, a18, c18, vs2 ++ [.slice a16 ls[i].length c16], by omega, by simp [hp1], hc18, rfl, rfl, rfl, rfl, by rw [List.take_succ_eq_append_getElem hi, parts_snoc (by rw [List.length_take]; omega)]; ac_rfl⟩
    · obtain rfl : i = m := by simp at h; omega
      rw [List.take_of_length_le (by omega)]
      refine tc_exit ?_; refine q_then_e (q_then_e (q_block_x (q_then_n ?_))); refine sr ?_; refine tlm ?_; refine tla ?_; refine nq ?_; refine tc_ret ?_; exact ⟨.slice a3 i c3, _, res1 rfl rfl, Dr.sat (by repeat (first | with_reducible exact dr_refl | apply dr_keep | apply dr_drop)), a3, c3, vs2, rfl, hp2, rfl⟩
theorem rContents_f (A : SP) {r : Nat} {lv av : Value} {rls : List RL} {s : DevS} (hR : RdevR A r lv rls av s) {q : Nat} (hq : q < s.ls.length) :
    Fn Tryz.prog 58 #[.pointer (some ⟨r, 0, none⟩), .int .i64 (q : Nat)] (A) (fun v B => ∃ X, B = A * X ∧ ∃ a c vs, v = .slice a (ctS q s).length c ∧ (ctS q s).length ≤ c ∧ X = Parts vs (ctS q s) * Sl 1 (.slice a (ctS q s).length c) (ctS q s).length vs) := by
  refine fn_enterW (args := [.pointer (some ⟨r, 0, none⟩), .int .i64 (q : Nat)]) Tryz.func58 rfl Tryz.ntmps58 (by simp) ?_
  obtain ⟨bl, ol, cl_, rfl, hlc, hlr⟩ := hR.lv
  have hlen := hR.len
  have htop := hR.wf.top
  have hir : q < rls.length := by omega
  obtain ⟨ba, oa, ca, g1, hca, har⟩ := hR.allC hir
  have hrl := hR.rows hir hq
  have hsm := hR.small hir
  have hct := ctS_at hq
  have hwl := hR.wf.line _ (List.getElem_mem hq)
  have hcl : (ctS q s).length = rls[q].rows.length := by rw [hct, List.length_map, hrl]
  rw [hcl]
  refine sr ?_; refine tla ?_; refine nq ?_; refine tc_seq ?_; refine sr ?_; refine tlm ?_; refine tv (o_lss rfl rfl) ?_; refine tlm ?_; refine tl_bool (d := 7) rfl (fun h => ?_) (fun h => ?_)
  · exfalso; simp at h; omega
  · try simp only [lv1, lv2, lv3, lv4, lv5, lv6, Bool.not_true, Bool.not_false] at h
    refine tlm ?_; refine tlm ?_; refine tv (o_nilCheck rfl) ?_; refine tv (o_fieldAddr (o := 1) Tryz.underlying114 rfl rfl sz112 rfl) ?_; refine tv (o_ldP (a := some ⟨r, 0, none⟩) (i := 1) p112 rfl (by repeat (first | exact hR.d | apply Rs.left)) rfl) ?_; refine tv (o_len Tryz.underlying112 rfl) ?_; refine tv (o_geq rfl rfl) ?_; refine tv (o_pick_f rfl (by conv => lhs; whnf)) ?_; refine nq ?_; refine tc_cond rfl (fun h => ?_) (fun h => ?_)
    · exfalso; simp at h; omega
    · try simp only [lv1, lv2, lv3, lv4, lv5, lv6, Bool.not_true, Bool.not_false] at h
      refine tc_skip ?_; refine q_then_n ?_; refine sr ?_; refine tlm ?_; refine tv (o_nilCheck rfl) ?_; refine tv (o_fieldAddr (o := 1) Tryz.underlying114 rfl rfl sz112 rfl) ?_; refine tv (o_ldP (a := some ⟨r, 0, none⟩) (i := 1) p112 rfl (by repeat (first | exact hR.d | apply Rs.left)) rfl) ?_; refine tlm ?_; refine tv (o_ixP Tryz.underlying112 sz116 rfl rfl (by first | omega | (simp only [bys_length, ints_length, wds_length, bos_length, List.length_append, List.length_take, List.length_drop, List.length_singleton]; omega)) (by repeat (first | exact nn_some | with_reducible exact nn_sl (by decide) | exact nn_rs (by assumption) (fun _ => by first | omega | (simp only [bys_length, ints_length, wds_length, bos_length, List.length_append, List.length_take, List.length_drop, List.length_singleton]; omega)) | apply Nn.left))) ?_; refine tv (o_faP (m := 0) (o := 0) Tryz.underlying116 rfl rfl sz88 rfl (by repeat (first | exact nn_some | with_reducible exact nn_sl (by decide) | exact nn_rs (by assumption) (fun _ => by first | omega | (simp only [bys_length, ints_length, wds_length, bos_length, List.length_append, List.length_take, List.length_drop, List.length_singleton]; omega)) | apply Nn.left))) ?_; refine tv (o_ldP p88 rfl (by repeat (first | assumption | with_reducible exact rs_sl | with_reducible exact rs_pt0 | exact rs_none | apply Rs.left)) (by first | assumption | exact bys_at (by omega) | exact ints_at (by omega) | exact wds_at (by omega) | exact bos_at (by omega) | rfl)) ?_
      refine tl_c rfl (o_call bd115 rfl (CopyRows_c (vs := rls[q].rows.map Prod.fst) (ls := ctS q s) (hr := har) (hv := by rw [List.length_map, hcl]) (hrow := fun i hi => by
          have hi2 : i < rls[q].rows.length := by omega
          obtain ⟨b, o, c, e1, e2, e3⟩ := hR.row q hir i hi2
          have e4 := hR.snd hir hq hi2
          have e5 : (ctS q s)[i] = lb rls[q].rows[i].2 := by simp only [hct, List.getElem_map, e4]
          have e6 : (lb rls[q].rows[i].2).length = 64 := lb_len (by rw [e4]; exact hwl.eight _ (List.getElem_mem _))
          refine ⟨_, c, ?_, e5 ▸ e3⟩
          rw [List.getElem?_map, List.getElem?_eq_getElem hi2, e5, e6]; simp [e1]) (hm := hcl) (hl := by omega) (hll := fun l hl => by
          rw [hct] at hl; obtain ⟨w, hw, rfl⟩ := List.mem_map.1 hl; rw [lb_len (hwl.eight _ hw)]; omega))) ?_
      rintro _ _ ⟨a24, c24, vs24, rfl, hc24, rfl⟩; refine tla ?_; refine nq ?_; refine tc_ret ?_; exact ⟨.slice a24 rls[q].rows.length c24, _, res1 rfl rfl, fun _ _ h => h, _, star_assoc _ _ _, a24, c24, vs24, rfl, hc24, rfl⟩
theorem rContentsNo_f (A : SP) {r : Nat} {lv av : Value} {rls : List RL} {s : DevS} (hR : RdevR A r lv rls av s) {p : Int} (hno : p < 0 ∨ (s.ls.length : Int) ≤ p) :
    Fn Tryz.prog 58 #[.pointer (some ⟨r, 0, none⟩), .int .i64 p] (A) (fun v B => v = .slice none 0 0 ∧ A = B) := by
  refine fn_enterW (args := [.pointer (some ⟨r, 0, none⟩), .int .i64 p]) Tryz.func58 rfl Tryz.ntmps58 (by simp) ?_
  obtain ⟨bl, ol, cl_, rfl, hlc, hlr⟩ := hR.lv
  have hlen := hR.len
  have htop := hR.wf.top
  refine sr ?_; refine tla ?_; refine nq ?_; refine tc_seq ?_; refine sr ?_; refine tlm ?_; refine tv (o_lss rfl rfl) ?_; refine tlm ?_; refine tl_bool (d := 7) rfl (fun h => ?_) (fun h => ?_)
  · try simp only [lv1, lv2, lv3, lv4, lv5, lv6, Bool.not_true, Bool.not_false] at h
    refine tk ?_; refine tk ?_; refine tk ?_; refine tk ?_; refine tk ?_; refine tk ?_; refine tk ?_; refine tv (o_pick_t rfl (by conv => lhs; whnf)) ?_; refine nq ?_; refine tc_cond_t rfl ?_; refine sr ?_; refine tla ?_; refine nq ?_; refine tc_ret ?_; refine q_then_r ?_; refine ⟨_, _, res1 rfl rfl, ?_, rfl, rfl⟩; exact Dr.sat (by repeat (first | with_reducible exact dr_refl | apply dr_keep | apply dr_drop))
  · try simp only [lv1, lv2, lv3, lv4, lv5, lv6, Bool.not_true, Bool.not_false] at h
    refine tlm ?_; refine tlm ?_; refine tv (o_nilCheck rfl) ?_; refine tv (o_fieldAddr (o := 1) Tryz.underlying114 rfl rfl sz112 rfl) ?_; refine tv (o_ldP (a := some ⟨r, 0, none⟩) (i := 1) p112 rfl (by repeat (first | exact hR.d | apply Rs.left)) rfl) ?_; refine tv (o_len Tryz.underlying112 rfl) ?_; refine tv (o_geq rfl rfl) ?_; refine tv (o_pick_f rfl (by conv => lhs; whnf)) ?_; refine nq ?_; refine tc_cond rfl (fun h => ?_) (fun h => ?_)
    · try simp only [lv1, lv2, lv3, lv4, lv5, lv6, Bool.not_true, Bool.not_false] at h
      refine sr ?_; refine tla ?_; refine nq ?_; refine tc_ret ?_; refine q_then_r ?_; refine ⟨_, _, res1 rfl rfl, ?_, rfl, rfl⟩; exact Dr.sat (by repeat (first | with_reducible exact dr_refl | apply dr_keep | apply dr_drop))
    · exfalso; simp at h; omega
theorem rImage_f (A : SP) {r : Nat} {lv av : Value} {rls : List RL} {s : DevS} (hR : RdevR A r lv rls av s) :
    Fn Tryz.prog 55 #[.pointer (some ⟨r, 0, none⟩)] (A) (fun v B => ∃ X, B = A * X ∧ ∃ a c, v = .slice a (s.ls.length * 64) c ∧ s.ls.length * 64 ≤ c ∧ X = Sl 1 (.slice a (s.ls.length * 64) c) (s.ls.length * 64) (bys (imgS s))) := by
  refine fn_enterW (args := [.pointer (some ⟨r, 0, none⟩)]) Tryz.func55 rfl Tryz.ntmps55 (by simp) ?_
  obtain ⟨bl, ol, cl_, rfl, hlc, hlr⟩ := hR.lv
  have hlen := hR.len
  have htop := hR.wf.top
  refine sr ?_; refine tla ?_; refine nq ?_; refine sr ?_; refine tla ?_; refine nq ?_; refine tc_seq ?_; refine tc_seq ?_; refine tc_pre (A' := A * Sl 1 (.slice none 0 0) 0 []) (fun _ _ h => sl_nil h) ?_; refine tc_reg ?_; refine tla ?_; refine nq ?_; refine tc_block ?_; refine tc_loop (fun kk ρ BB => ∃ (i : Nat) (a3 : Option Addr) (c3 : Nat), (i ≤ s.ls.length) ∧ (i * 64 ≤ c3) ∧ kk = s.ls.length - i ∧ ρ 3 = .slice a3 (i * 64) c3 ∧ ρ 4 = .int .i64 (i : Nat) ∧ ρ 0 = .pointer (some ⟨r, 0, none⟩) ∧ BB = A * Sl 1 (.slice a3 (i * 64) c3) (i * 64) (bys (img (s.ls.take i)))) (m := s.ls.length - (0)) ?_ ?_
  · exact ⟨0, none, 0, by omega, by omega, rfl, rfl, rfl, rfl, rfl⟩
  · intro k ρ B hI
    obtain ⟨i, a3, c3, hp0, hp1, hkk1, hE3, hE4, hE0, rfl⟩ := hI
    refine tc_env (d := 3) hE3 ?_; refine tc_env (d := 4) hE4 ?_; refine tc_env (d := 0) hE0 ?_
    clear hE3 hE4 hE0
    refine tc_seq ?_; refine sr ?_; refine tlm ?_; refine tlm ?_; refine tv (o_nilCheck rfl) ?_; refine tv (o_fieldAddr (o := 1) Tryz.underlying114 rfl rfl sz112 rfl) ?_; refine tv (o_ldP (a := some ⟨r, 0, none⟩) (i := 1) p112 rfl (by repeat (first | exact hR.d | apply Rs.left)) rfl) ?_; refine tv (o_len Tryz.underlying112 rfl) ?_; refine tv (o_lss rfl rfl) ?_; refine nq ?_; refine tc_cond rfl (fun h => ?_) (fun h => ?_)
    · have hi : i < s.ls.length := by simp at h; omega
      have hir : i < rls.length := by omega
      obtain ⟨br, orr, cr, ht, hcr, hrr⟩ := hR.top hir hi
      have hs8 := seen8 (hR.wf.line _ (List.getElem_mem hi))
      refine tc_skip ?_; refine q_then_n ?_; refine tc_seq ?_; refine tc_block ?_; refine tc_reg ?_; refine tlm ?_; refine tlm ?_; refine tlm ?_; refine tl_c rfl (o_call bd114 rfl (rseen_f _ hR.left hir ht)) ?_; rintro _ _ ⟨rfl, rfl⟩; refine tl_x rfl (o_apR Tryz.underlying32 Tryz.underlying32 sz5 by5 z5 rfl (by decide) (by decide) rfl rfl (by repeat (first | with_reducible exact ct_here | apply ct_left)) hrr.left (by rw [bys_length, hs8]) (bys_all _) (by omega) rfl) ?_; rintro _ _ ⟨a18, c18, rfl, hc18, rfl⟩; refine tla ?_; refine tl_nil ?_; refine q_block_n (q_then_n ?_); refine tc_reg ?_; refine tlm ?_; refine tv (by first | exact o_addI rfl rfl (by omega) | exact o_add rfl rfl) ?_; refine tla ?_; refine nq ?_; exact ⟨_, by omega, i + 1, a18, c18, by omega, by omega, rfl, by show Value.slice a18 (i * 64 + 64) c18 = _; rw [show (i + 1) * 64 = i * 64 + 64 by omega], rfl, rfl, by rw [img_take hi, bys_append, show (i + 1) * 64 = i * 64 + 64 by omega]⟩
    · obtain rfl : i = s.ls.length := by simp at h; omega
      rw [List.take_length]
      refine tc_exit ?_; refine q_then_e (q_then_e (q_block_x (q_then_n ?_))); refine sr ?_; refine tlm ?_; refine tla ?_; refine nq ?_; refine tc_ret ?_; exact ⟨.slice a3 (s.ls.length * 64) c3, _, res1 rfl rfl, fun _ _ h => h, _, rfl, a3, c3, rfl, hp1, rfl⟩
theorem rLoad_f (A : SP) {r : Nat} {lv av : Value} {rls : List RL} {s : DevS} (hR : RdevR A r lv rls av s) {p m : Nat} (hoff : s.off = false) (hpm : p + m ≤ s.ls.length * 64) :
    Fn Tryz.prog 89 #[.pointer (some ⟨r, 0, none⟩), .int .i64 (p : Nat), .int .i64 (m : Nat)] (A) (fun v B => ∃ X, B = A * X ∧ ∃ a c, v = .tuple #[.slice a m c, .int .i64 0] ∧ m ≤ c ∧ X = Sl 1 (.slice a m c) m (bys (((imgS s).drop p).take m))) := by
  refine fn_enterW (args := [.pointer (some ⟨r, 0, none⟩), .int .i64 (p : Nat), .int .i64 (m : Nat)]) Tryz.func89 rfl Tryz.ntmps89 (by simp) ?_
  obtain ⟨bl, ol, cl_, rfl, hlc, hlr⟩ := hR.lv
  have hlen := hR.len
  have htop := hR.wf.top
  have hil := img_length hR.wf.line
  refine sr ?_; refine tla ?_; refine tla ?_; refine nq ?_; refine tc_seq ?_; refine sr ?_; refine tlm ?_; refine tv (o_nilCheck rfl) ?_; refine tv (o_fieldAddr (o := 5) Tryz.underlying114 rfl rfl sz4 rfl) ?_; refine tv (o_ldP (a := some ⟨r, 0, none⟩) (i := 5) p4 rfl (by repeat (first | exact hR.d | apply Rs.left)) rfl) ?_; refine nq ?_; refine tc_cond rfl (fun h => ?_) (fun h => ?_)
  · exfalso; rw [hoff] at h; cases h
  · try simp only [lv1, lv2, lv3, lv4, lv5, lv6, Bool.not_true, Bool.not_false] at h
    refine tc_skip ?_; refine q_then_n ?_; refine tc_seq ?_; refine sr ?_; refine tlm ?_; refine tlm ?_; refine tlm ?_; refine tl_c rfl (o_call bd101 rfl (rinside_f _ hR (by omega) (by omega))) ?_; rintro _ _ ⟨rfl, rfl⟩; refine tv (o_not rfl) ?_; refine nq ?_; refine tc_cond rfl (fun h => ?_) (fun h => ?_)
    · exfalso; simp at h; unfold rdy at h; rw [if_neg (by decide), if_neg (by omega)] at h; exact h rfl
    · try simp only [lv1, lv2, lv3, lv4, lv5, lv6, Bool.not_true, Bool.not_false] at h
      refine tc_skip ?_; refine q_then_n ?_; refine sr ?_; refine tla ?_; refine nq ?_; refine tc_seq ?_; refine tc_seq ?_; refine tc_pre (A' := A * Sl 1 (.slice none 0 0) 0 []) (fun _ _ h => sl_nil h) ?_; refine tc_reg ?_; refine tlm ?_; refine tla ?_; refine nq ?_; refine tc_block ?_; refine tc_loop (fun kk ρ BB => ∃ (j : Nat) (a3 : Option Addr) (c3 : Nat), (j ≤ m) ∧ (j ≤ c3) ∧ kk = m - j ∧ ρ 8 = .slice a3 j c3 ∧ ρ 9 = .int .i64 ((p + j : Nat) : Int) ∧ ρ 0 = .pointer (some ⟨r, 0, none⟩) ∧ ρ 1 = .int .i64 (p : Nat) ∧ ρ 2 = .int .i64 (m : Nat) ∧ BB = A * Sl 1 (.slice a3 j c3) j (bys (((imgS s).drop p).take j))) (m := m - (0)) ?_ ?_
      · exact ⟨0, none, 0, by omega, by omega, rfl, rfl, rfl, rfl, rfl, rfl, rfl⟩
      · intro k ρ B hI
        obtain ⟨j, a3, c3, hp0, hp1, hkk1, hE8, hE9, hE0, hE1, hE2, rfl⟩ := hI
        refine tc_env (d := 8) hE8 ?_; refine tc_env (d := 9) hE9 ?_; refine tc_env (d := 0) hE0 ?_; refine tc_env (d := 1) hE1 ?_; refine tc_env (d := 2) hE2 ?_
        clear hE8 hE9 hE0 hE1 hE2
        refine tc_seq ?_; refine sr ?_; refine tlm ?_; refine tlm ?_; refine tlm ?_; refine tv (by first | exact o_addI rfl rfl (by omega) | exact o_add rfl rfl) ?_; refine tv (o_lss rfl rfl) ?_; refine nq ?_; refine tc_cond rfl (fun h => ?_) (fun h => ?_)
        · have hj : j < m := by simp at h; omega
          have hi : (p + j) / 64 < s.ls.length := by omega
          have hir : (p + j) / 64 < rls.length := by omega
          obtain ⟨br, orr, cr, ht, hcr, hrr⟩ := hR.top hir hi
          have hs8 := seen8 (hR.wf.line _ (List.getElem_mem hi))
          have hjd : j < ((imgS s).drop p).length := by rw [List.length_drop]; unfold imgS; omega
          have hby : ((imgS s).drop p)[j] = (lb (seenL s.ls[(p + j) / 64]))[(p + j) % 64]'(by omega) := by
            have := img_getR hR.wf hi
            rw [List.getElem?_eq_getElem (show (p + j) % 64 < (lb (seenL s.ls[(p + j) / 64])).length by omega), ← List.getElem?_drop, List.getElem?_eq_getElem hjd] at this
            exact Option.some.inj this
          refine tc_skip ?_; refine q_then_n ?_; refine tc_seq ?_; refine tc_block ?_; refine tc_reg ?_; refine tlm ?_; refine tlm ?_; refine tlm ?_; refine tv (o_quoN (b := 64) rfl rfl (by omega)) ?_; refine tl_c rfl (o_call bd114 rfl (rseen_f _ hR.left (i := (p + j) / 64) hir ht)) ?_; rintro _ _ ⟨rfl, rfl⟩; refine tlm ?_; refine tv (o_remN (b := 64) rfl rfl (by omega)) ?_; refine tv (o_ixP1 Tryz.underlying32 sz5 rfl rfl (by first | omega | (simp only [bys_length, ints_length, wds_length, bos_length, List.length_append, List.length_take, List.length_drop, List.length_singleton]; omega)) (by repeat (first | exact nn_some | with_reducible exact nn_sl (by decide) | exact nn_rs (by assumption) (fun _ => by first | omega | (simp only [bys_length, ints_length, wds_length, bos_length, List.length_append, List.length_take, List.length_drop, List.length_singleton]; omega)) | apply Nn.left))) ?_; refine tv (o_ldP p5 rfl hrr.left (bys_at (by omega))) ?_; refine tl_x rfl (o_buildSlice1 Tryz.underlying32 sz5 z5 (by conv => lhs; whnf) rfl) ?_; rintro _ _ ⟨b36, rfl, rfl⟩; refine tl_x rfl (o_apB Tryz.underlying32 Tryz.underlying32 sz5 by5 z5 rfl (by decide) (by decide) rfl rfl rfl (by repeat (first | with_reducible exact ct_here | apply ct_left)) rfl (by first | exact bys_all _ | exact ints_all _ | exact wds_all _ | exact bos_all _ | rfl) (by first | omega | (simp only [bys_length, ints_length, wds_length, bos_length, List.length_append, List.length_take, List.length_drop, List.length_singleton]; omega)) (by first | exact bys_sn _ _ | exact ints_sn _ _ | exact wds_sn _ _ | exact bos_sn _ _ | exact (bys_append _ _).symm | rfl)) ?_
          rintro _ _ ⟨a37, c37, rfl, hc37, rfl⟩; refine tla ?_; refine tl_nil ?_; refine q_block_n (q_then_n ?_); refine tc_reg ?_; refine tlm ?_; refine tv (by first | exact o_addI rfl rfl (by omega) | exact o_add rfl rfl) ?_; refine tl_env (d := 26) (v := .int .i64 ((p + (j + 1) : Nat) : Int)) (rfl) ?_; refine tla ?_; refine nq ?_; exact ⟨_, by omega, j + 1, a37, c37, by omega, by omega, rfl, rfl, rfl, rfl, rfl, rfl, by rw [List.take_succ_eq_append_getElem hjd, hby]⟩
        · obtain rfl : j = m := by simp at h; omega
          refine tc_exit ?_; refine q_then_e (q_then_e (q_block_x (q_then_n ?_))); refine sr ?_; refine tlm ?_; refine tla ?_; refine tla ?_; refine nq ?_; refine tc_ret ?_; exact ⟨.tuple #[.slice a3 j c3, .int .i64 0], _, res2 rfl rfl rfl, fun _ _ h => h, _, rfl, a3, c3, rfl, hp1, rfl⟩
theorem rFromNo_c {F : SP} {a : Option Addr} {c m : Nat} (hno : fitsB (m : Int) = false := by assumption) :
    Fn Tryz.prog 22 #[.slice a m c] (F) (fun v B => v = .tuple #[.pointer none, .int .i64 80] ∧ F = B) := by
  refine fn_enterW (args := [.slice a m c]) Tryz.func22 rfl Tryz.ntmps22 (by simp) ?_; refine sr ?_; refine tla ?_; refine tla ?_; refine nq ?_; refine tc_seq ?_; refine sr ?_; refine tlm ?_; refine tv (o_len Tryz.underlying32 rfl) ?_; refine tl_c rfl (o_call bd21 rfl (rfits_c (p := (m : Nat)))) ?_; rintro _ _ ⟨rfl, rfl⟩; refine tv (o_not rfl) ?_; refine nq ?_; refine tc_cond rfl (fun h => ?_) (fun h => ?_)
  · try simp only [lv1, lv2, lv3, lv4, lv5, lv6, Bool.not_true, Bool.not_false] at h
    refine sr ?_; refine tla ?_; refine tla ?_; refine nq ?_; refine tc_ret ?_; refine q_then_r ?_; refine ⟨.tuple #[.pointer none, .int .i64 80], _, res2 rfl rfl rfl, ?_, rfl, rfl⟩; exact Dr.sat (by repeat (first | with_reducible exact dr_refl | apply dr_keep | apply dr_drop))
  · exfalso; simp [hno] at h
set_option maxRecDepth 20000 in
set_option maxHeartbeats 1000000 in
theorem rFrom_c {F : SP} {a : Option Addr} {c m : Nat} {xs : List Nat} (n : Nat) (hr : Rs F a (bys xs) := by repeat (first | assumption | with_reducible exact rs_sl | with_reducible exact rs_pt0 | exact rs_none | apply Rs.left)) (hx : xs.length = m := by first | assumption | rfl) (hm : m = n * 64 := by omega) (hmc : m ≤ c := by omega) (hb : ∀ x ∈ xs, x < 256 := by assumption) (hn : 0 < n := by omega) (hn2 : n ≤ 65536 := by omega) :
    Fn Tryz.prog 22 #[.slice a m c] (F) (fun v B => ∃ d, v = .tuple #[.pointer (some ⟨d, 0, none⟩), .int .i64 0] ∧ B = F * RDev d (fromS n xs)) := by
  refine fn_enterW (args := [.slice a m c]) Tryz.func22 rfl Tryz.ntmps22 (by simp) ?_
  have hfit : fitsB (m : Int) = true := by unfold fitsB; simp; omega
  refine sr ?_; refine tla ?_; refine tla ?_; refine nq ?_; refine tc_seq ?_; refine sr ?_; refine tlm ?_; refine tv (o_len Tryz.underlying32 rfl) ?_; refine tl_c rfl (o_call bd21 rfl (rfits_c (p := (m : Nat)))) ?_; rintro _ _ ⟨rfl, rfl⟩; refine tv (o_not rfl) ?_; refine nq ?_; refine tc_cond rfl (fun h => ?_) (fun h => ?_)
  · exfalso; rw [hfit] at h; exact absurd h (by decide)
  · try simp only [lv1, lv2, lv3, lv4, lv5, lv6, Bool.not_true, Bool.not_false] at h
    refine tc_skip ?_; refine q_then_n ?_; refine sr ?_; refine tlm ?_; refine tv (o_len Tryz.underlying32 rfl) ?_; refine tv (o_bS (l := [.int .i64 (m : Nat), .slice none 0 0, .int .i64 0, .slice none 0 0, .int .i64 0, .bool false]) (pv_cons (by conv => lhs; whnf) pv_nil) Tryz.underlying114 z114 (pl114 Tryz.underlying114) rfl) ?_; refine tl_x rfl (o_box rfl rfl) ?_; rintro _ _ ⟨b13, rfl, rfl⟩; refine tl_pre (A' := F * Bs rlR [] * pt b13 (cl ([.int .i64 ((n * 64 : Nat) : Int), .slice none 0 0, .int .i64 0, .slice none 0 0, .int .i64 0, .bool false]) 114) * Sl 2 (.slice none 0 0) 0 []) (fun _ _ h => sl_nil (by rw [bs_nil, star_emp, ← hm]; exact h)) ?_; refine tla ?_; refine nq ?_; refine tc_seq ?_; refine sr ?_; refine tla ?_; refine nq ?_; refine tc_block ?_; refine tc_loop (fun kk ρ BB => ∃ (i : Nat) (aL : Option Addr) (cL : Nat) (rls1 : List RL), (i ≤ n) ∧ (rls1.map RL.l = (fromS n xs).ls.take i) ∧ kk = n - i ∧ ρ 5 = .int .i64 ((i * 64 : Nat) : Int) ∧ ρ 0 = .slice a m c ∧ ρ 4 = .pointer (some ⟨b13, 0, none⟩) ∧ BB = F * Bs rlR rls1 * pt b13 (cl ([.int .i64 ((n * 64 : Nat) : Int), .slice aL i cL, .int .i64 0, .slice none 0 0, .int .i64 0, .bool false]) 114) * Sl 2 (.slice aL i cL) i (rls1.flatMap rcl)) (m := n - (0)) ?_ ?_
    · exact ⟨0, none, 0, [], by omega, rfl, rfl, rfl, rfl, rfl, rfl⟩
    · intro k ρ B hI
      obtain ⟨i, aL, cL, rls1, hp0, hp1, hkk1, hE5, hE0, hE4, rfl⟩ := hI
      refine tc_env (d := 5) hE5 ?_; refine tc_env (d := 0) hE0 ?_; refine tc_env (d := 4) hE4 ?_
      clear hE5 hE0 hE4
      refine tc_seq ?_; refine sr ?_; refine tlm ?_; refine tlm ?_; refine tv (o_len Tryz.underlying32 rfl) ?_; refine tv (o_lss rfl rfl) ?_; refine nq ?_; refine tc_cond rfl (fun h => ?_) (fun h => ?_)
      · have hi : i < n := by simp at h; omega
        have hrl : rls1.length = i := by have := congrArg List.length hp1; rw [List.length_map, List.length_take, fromS_len] at this; omega
        have hxl : ((xs.drop (i * 64)).take 64).length = 64 := by rw [List.length_take, List.length_drop]; omega
        have hlf := lineF_lb hb (show i * 64 + 64 ≤ xs.length by omega)
        refine tc_skip ?_; refine q_then_n ?_; refine tc_seq ?_; refine tc_block ?_; refine tc_regh (S := F * Bs rlR rls1) mo (by repeat (first | with_reducible exact dr_refl | apply dr_keep | apply dr_drop)) ?_
        show TH _ _ _ _ _ 18 #[ff,ff,ff,ff,ff,ff,ff,ff,ff,ff,ff,ff,ff,ff,ff,ff,ff,ff] _ _
        refine th_take (i := 0) (listed' := #[tt,ff,ff,ff,ff,ff,ff,ff,ff,ff,ff,ff,ff,ff,ff,ff,ff,ff]) rfl (by kernel_rfl) (by kernel_rfl) (by kernel_rfl) rfl rfl (o_move (by conv => lhs; whnf)) ?_; refine th_take (i := 1) (listed' := #[tt,tt,ff,ff,ff,ff,ff,ff,ff,ff,ff,ff,ff,ff,ff,ff,ff,ff]) rfl (by kernel_rfl) (by kernel_rfl) (by kernel_rfl) rfl rfl (o_move (by conv => lhs; whnf)) ?_; refine th_take (i := 2) (listed' := #[tt,tt,tt,ff,ff,ff,ff,ff,ff,ff,ff,ff,ff,ff,ff,ff,ff,ff]) rfl (by kernel_rfl) (by kernel_rfl) (by kernel_rfl) rfl rfl (o_nilCheck rfl) ?_; refine th_take (i := 3) (listed' := #[tt,tt,tt,tt,ff,ff,ff,ff,ff,ff,ff,ff,ff,ff,ff,ff,ff,ff]) rfl (by kernel_rfl) (by kernel_rfl) (by kernel_rfl) rfl rfl (o_fieldAddr (o := 1) Tryz.underlying114 rfl rfl sz112 rfl) ?_; refine th_take (i := 5) (listed' := #[tt,tt,tt,tt,ff,tt,ff,ff,ff,ff,ff,ff,ff,ff,ff,ff,ff,ff]) rfl (by kernel_rfl) (by kernel_rfl) (by kernel_rfl) rfl rfl (o_move (by conv => lhs; whnf)) ?_; refine th_take (i := 6) (listed' := #[tt,tt,tt,tt,ff,tt,tt,ff,ff,ff,ff,ff,ff,ff,ff,ff,ff,ff]) rfl (by kernel_rfl) (by kernel_rfl) (by kernel_rfl) rfl rfl (o_move (by conv => lhs; whnf)) ?_; refine th_take (i := 7) (listed' := #[tt,tt,tt,tt,ff,tt,tt,tt,ff,ff,ff,ff,ff,ff,ff,ff,ff,ff]) rfl (by kernel_rfl) (by kernel_rfl) (by kernel_rfl) rfl rfl (o_move (by conv => lhs; whnf)) ?_; refine th_take (i := 8) (listed' := #[tt,tt,tt,tt,ff,tt,tt,tt,tt,ff,ff,ff,ff,ff,ff,ff,ff,ff]) rfl (by kernel_rfl) (by kernel_rfl) (by kernel_rfl) rfl rfl (o_addI rfl rfl (by omega)) ?_
        refine th_env (d := 28) (v := .int .i64 ((i * 64 + 64 : Nat) : Int)) (rfl) ?_; refine th_take (i := 9) (listed' := #[tt,tt,tt,tt,ff,tt,tt,tt,tt,tt,ff,ff,ff,ff,ff,ff,ff,ff]) rfl (by kernel_rfl) (by kernel_rfl) (by kernel_rfl) rfl rfl (o_slice (l := i * 64) (h := i * 64 + 64) Tryz.underlying32 sz5 rfl (bnd_nat rfl) (bnd_nat rfl) (by omega) (by omega)) ?_; refine th_env (d := 29) (v := .slice (cutAddr a c (i * 64) 1) 64 (c - i * 64)) (by show Value.slice _ (i * 64 + 64 - i * 64) _ = _; rw [Nat.add_sub_cancel_left]) ?_; refine th_two (i := 4) (j := 10) (by kernel_rfl) ?_ ?_
        · skip
          refine oh_v (i := 4) (listed' := #[tt,tt,tt,tt,tt,tt,tt,tt,tt,tt,ff,ff,ff,ff,ff,ff,ff,ff]) rfl rfl rfl (o_load p112 rfl (by repeat (first | with_reducible exact has_here | with_reducible exact has_pt | apply has_left)) rfl) ?_; refine th_one (i := 10) (by kernel_rfl) ?_; refine oh_c (i := 10) (listed' := #[tt,tt,tt,tt,tt,tt,tt,tt,tt,tt,tt,ff,ff,ff,ff,ff,ff,ff]) rfl rfl rfl (o_call bd35 rfl (CopyBytes_c (xs := (xs.drop (i * 64)).take 64) (hr := (by repeat (first | exact rs_mid hr (by omega) | apply Rs.left))) (hm := hxl))) ?_; rintro _ _ ⟨a30, c30, rfl, hc30, rfl⟩; refine ⟨by repeat (first | with_reducible exact dr_refl | apply dr_keep | apply dr_drop), ?_⟩; refine th_one (i := 11) (by kernel_rfl) ?_; refine oh_x (i := 11) (listed' := #[tt,tt,tt,tt,tt,tt,tt,tt,tt,tt,tt,tt,ff,ff,ff,ff,ff,ff]) rfl rfl rfl (o_buildSlice1 Tryz.underlying88 sz32 z32 rfl rfl) ?_; rintro _ _ ⟨b31, rfl, rfl⟩; refine ⟨by repeat (first | with_reducible exact dr_refl | apply dr_keep | apply dr_drop), ?_⟩; refine th_take (i := 12) (listed' := #[tt,tt,tt,tt,tt,tt,tt,tt,tt,tt,tt,tt,tt,ff,ff,ff,ff,ff]) rfl (by kernel_rfl) (by kernel_rfl) (by kernel_rfl) rfl rfl (o_bS (l := [_, _]) (pv_cons (by conv => lhs; whnf) (pv_cons (by conv => lhs; whnf) pv_nil)) Tryz.underlying116 z116 (pl116 Tryz.underlying116) rfl) ?_; refine th_one (i := 13) (by kernel_rfl) ?_; refine oh_x (i := 13) (listed' := #[tt,tt,tt,tt,tt,tt,tt,tt,tt,tt,tt,tt,tt,tt,ff,ff,ff,ff]) rfl rfl rfl (o_buildSliceK (k := 2) (l := [.slice (some ⟨b31, 0, none⟩) 1 1, .int .i64 (-1)]) Tryz.underlying112 sz116 z116 rfl rfl (by decide)) ?_
          rintro _ _ ⟨b33, rfl, rfl⟩; refine ⟨by repeat (first | with_reducible exact dr_refl | apply dr_keep | apply dr_drop), ?_⟩; refine th_one (i := 14) (by kernel_rfl) ?_; refine oh_x (i := 14) (listed' := #[tt,tt,tt,tt,tt,tt,tt,tt,tt,tt,tt,tt,tt,tt,tt,ff,ff,ff]) rfl rfl rfl (o_apB Tryz.underlying112 Tryz.underlying112 sz116 by116 z116 rfl (by decide) (by decide) rfl rfl rfl (by repeat (first | with_reducible exact ct_here | apply ct_left)) rfl rfl (by omega) (fm_sn rls1 ((⟨.slice (some ⟨b31, 0, none⟩) 1 1, [(.slice a30 64 c30, seenL (lineF xs i))], -1⟩ : RL)))) ?_; rintro _ _ ⟨a34, c34, rfl, hc34, rfl⟩; refine ⟨by repeat (first | with_reducible exact dr_refl | apply dr_keep | apply dr_drop), ?_⟩; refine th_take (i := 15) (listed' := #[tt,tt,tt,tt,tt,tt,tt,tt,tt,tt,tt,tt,tt,tt,tt,tt,ff,ff]) rfl (by kernel_rfl) (by kernel_rfl) (by kernel_rfl) rfl rfl (o_nilCheck rfl) ?_; refine th_take (i := 16) (listed' := #[tt,tt,tt,tt,tt,tt,tt,tt,tt,tt,tt,tt,tt,tt,tt,tt,tt,ff]) rfl (by kernel_rfl) (by kernel_rfl) (by kernel_rfl) rfl rfl (o_fieldAddr (o := 1) Tryz.underlying114 rfl rfl sz112 rfl) ?_; refine th_one (i := 17) (by kernel_rfl) ?_; refine oh_u (i := 17) (listed' := #[tt,tt,tt,tt,tt,tt,tt,tt,tt,tt,tt,tt,tt,tt,tt,tt,tt,tt]) rfl rfl rfl (o_stU (l' := [.int .i64 ((n * 64 : Nat) : Int), .slice a34 (i + 1) c34, .int .i64 0, .slice none 0 0, .int .i64 0, .bool false]) rfl (by repeat (first | with_reducible exact upd_here | with_reducible exact upd_pt | apply upd_left)) sz112 rfl rfl (by show 1 < 6; decide) rfl) (by repeat (first | with_reducible exact dr_refl | apply dr_keep | apply dr_drop)) ?_
          refine th_done (by kernel_rfl) ?_; refine q_block_n (q_then_n ?_)
          have hnext : (rls1 ++ [(⟨.slice (some ⟨b31, 0, none⟩) 1 1, [(.slice a30 64 c30, seenL (lineF xs i))], -1⟩ : RL)]).map RL.l = (fromS n xs).ls.take (i + 1) := by
            rw [List.map_append, hp1, List.take_succ_eq_append_getElem (by rw [fromS_len]; exact hi), fromS_at xs hi]; rfl
          refine tc_pre (A' := F * Bs rlR (rls1 ++ [(⟨.slice (some ⟨b31, 0, none⟩) 1 1, [(.slice a30 64 c30, seenL (lineF xs i))], -1⟩ : RL)]) * pt b13 (cl ([.int .i64 ((n * 64 : Nat) : Int), .slice a34 (i + 1) c34, .int .i64 0, .slice none 0 0, .int .i64 0, .bool false]) 114) * Sl 2 (.slice a34 (i + 1) c34) (i + 1) ((rls1 ++ [(⟨.slice (some ⟨b31, 0, none⟩) 1 1, [(.slice a30 64 c30, seenL (lineF xs i))], -1⟩ : RL)]).flatMap rcl)) (fun _ _ h => ?_) ?_
          · have e : rlR (⟨.slice (some ⟨b31, 0, none⟩) 1 1, [(.slice a30 64 c30, seenL (lineF xs i))], -1⟩ : RL) = Sl 1 (.slice (some ⟨b31, 0, none⟩) 1 1) 1 [.slice a30 64 c30] * SlR 1 (.slice a30 64 c30) 64 (bys ((xs.drop (i * 64)).take 64)) := by
              show Sl 1 _ 1 [_] * Bs rowR [_] = _
              rw [bs_cons, bs_nil, emp_star]
              show _ * SlR 1 _ 64 (bys (lb (seenL (lineF xs i)))) = _
              rw [hlf]
            rw [bs_snoc, e]
            have h1 := sl_share (h.perm (show _ = F * Bs rlR rls1 * pt b13 (cl ([.int .i64 ((n * 64 : Nat) : Int), .slice a34 (i + 1) c34, .int .i64 0, .slice none 0 0, .int .i64 0, .bool false]) 114) * Sl 2 (.slice a34 (i + 1) c34) (i + 1) ((rls1 ++ [(⟨.slice (some ⟨b31, 0, none⟩) 1 1, [(.slice a30 64 c30, seenL (lineF xs i))], -1⟩ : RL)]).flatMap rcl) * pt b31 (cl [.slice a30 64 c30] 32) * Sl 1 (.slice a30 64 c30) 64 (bys ((xs.drop (i * 64)).take 64)) by ac_rfl))
            have h2 := sl_new (k := 1) (n := 1) (cap := 1) (xs := [.slice a30 64 c30]) (h1.perm (star_swap _ _ _)) (by decide) (Nat.le_refl _) rfl
            exact h2.perm (by ac_rfl)
          refine tc_reg ?_; refine tlm ?_; refine tv (by first | exact o_addI rfl rfl (by omega) | exact o_add rfl rfl) ?_; refine tl_env (d := 19) (v := .int .i64 (((i + 1) * 64 : Nat) : Int)) (by show Value.int .i64 _ = _; congr 1; omega) ?_; refine tla ?_; refine nq ?_; exact ⟨_, by omega, i + 1, a34, c34, rls1 ++ [(⟨.slice (some ⟨b31, 0, none⟩) 1 1, [(.slice a30 64 c30, seenL (lineF xs i))], -1⟩ : RL)], by omega, hnext, rfl, rfl, rfl, rfl, rfl⟩
        · skip
          refine oh_c (i := 10) (listed' := #[tt,tt,tt,tt,ff,tt,tt,tt,tt,tt,tt,ff,ff,ff,ff,ff,ff,ff]) rfl rfl rfl (o_call bd35 rfl (CopyBytes_c (xs := (xs.drop (i * 64)).take 64) (hr := (by repeat (first | exact rs_mid hr (by omega) | apply Rs.left))) (hm := hxl))) ?_; rintro _ _ ⟨a30, c30, rfl, hc30, rfl⟩; refine ⟨by repeat (first | with_reducible exact dr_refl | apply dr_keep | apply dr_drop), ?_⟩; refine th_two (i := 4) (j := 11) (by kernel_rfl) ?_ ?_
          · skip
            refine oh_v (i := 4) (listed' := #[tt,tt,tt,tt,tt,tt,tt,tt,tt,tt,tt,ff,ff,ff,ff,ff,ff,ff]) rfl rfl rfl (o_load p112 rfl (by repeat (first | with_reducible exact has_here | with_reducible exact has_pt | apply has_left)) rfl) ?_; refine th_one (i := 11) (by kernel_rfl) ?_; refine oh_x (i := 11) (listed' := #[tt,tt,tt,tt,tt,tt,tt,tt,tt,tt,tt,tt,ff,ff,ff,ff,ff,ff]) rfl rfl rfl (o_buildSlice1 Tryz.underlying88 sz32 z32 rfl rfl) ?_; rintro _ _ ⟨b31, rfl, rfl⟩; refine ⟨by repeat (first | with_reducible exact dr_refl | apply dr_keep | apply dr_drop), ?_⟩; refine th_take (i := 12) (listed' := #[tt,tt,tt,tt,tt,tt,tt,tt,tt,tt,tt,tt,tt,ff,ff,ff,ff,ff]) rfl (by kernel_rfl) (by kernel_rfl) (by kernel_rfl) rfl rfl (o_bS (l := [_, _]) (pv_cons (by conv => lhs; whnf) (pv_cons (by conv => lhs; whnf) pv_nil)) Tryz.underlying116 z116 (pl116 Tryz.underlying116) rfl) ?_; refine th_one (i := 13) (by kernel_rfl) ?_; refine oh_x (i := 13) (listed' := #[tt,tt,tt,tt,tt,tt,tt,tt,tt,tt,tt,tt,tt,tt,ff,ff,ff,ff]) rfl rfl rfl (o_buildSliceK (k := 2) (l := [.slice (some ⟨b31, 0, none⟩) 1 1, .int .i64 (-1)]) Tryz.underlying112 sz116 z116 rfl rfl (by decide)) ?_; rintro _ _ ⟨b33, rfl, rfl⟩; refine ⟨by repeat (first | with_reducible exact dr_refl | apply dr_keep | apply dr_drop), ?_⟩; refine th_one (i := 14) (by kernel_rfl) ?_; refine oh_x (i := 14) (listed' := #[tt,tt,tt,tt,tt,tt,tt,tt,tt,tt,tt,tt,tt,tt,tt,ff,ff,ff]) rfl rfl rfl (o_apB Tryz.underlying112 Tryz.underlying112 sz116 by116 z116 rfl (by decide) (by decide) rfl rfl rfl (by repeat (first | with_reducible exact ct_here | apply ct_left)) rfl rfl (by omega) (fm_sn rls1 ((⟨.slice (some ⟨b31, 0, none⟩) 1 1, [(.slice a30 64 c30, seenL (lineF xs i))], -1⟩ : RL)))) ?_
            rintro _ _ ⟨a34, c34, rfl, hc34, rfl⟩; refine ⟨by repeat (first | with_reducible exact dr_refl | apply dr_keep | apply dr_drop), ?_⟩; refine th_take (i := 15) (listed' := #[tt,tt,tt,tt,tt,tt,tt,tt,tt,tt,tt,tt,tt,tt,tt,tt,ff,ff]) rfl (by kernel_rfl) (by kernel_rfl) (by kernel_rfl) rfl rfl (o_nilCheck rfl) ?_; refine th_take (i := 16) (listed' := #[tt,tt,tt,tt,tt,tt,tt,tt,tt,tt,tt,tt,tt,tt,tt,tt,tt,ff]) rfl (by kernel_rfl) (by kernel_rfl) (by kernel_rfl) rfl rfl (o_fieldAddr (o := 1) Tryz.underlying114 rfl rfl sz112 rfl) ?_; refine th_one (i := 17) (by kernel_rfl) ?_; refine oh_u (i := 17) (listed' := #[tt,tt,tt,tt,tt,tt,tt,tt,tt,tt,tt,tt,tt,tt,tt,tt,tt,tt]) rfl rfl rfl (o_stU (l' := [.int .i64 ((n * 64 : Nat) : Int), .slice a34 (i + 1) c34, .int .i64 0, .slice none 0 0, .int .i64 0, .bool false]) rfl (by repeat (first | with_reducible exact upd_here | with_reducible exact upd_pt | apply upd_left)) sz112 rfl rfl (by show 1 < 6; decide) rfl) (by repeat (first | with_reducible exact dr_refl | apply dr_keep | apply dr_drop)) ?_; refine th_done (by kernel_rfl) ?_; refine q_block_n (q_then_n ?_)
            have hnext : (rls1 ++ [(⟨.slice (some ⟨b31, 0, none⟩) 1 1, [(.slice a30 64 c30, seenL (lineF xs i))], -1⟩ : RL)]).map RL.l = (fromS n xs).ls.take (i + 1) := by
              rw [List.map_append, hp1, List.take_succ_eq_append_getElem (by rw [fromS_len]; exact hi), fromS_at xs hi]; rfl
            refine tc_pre (A' := F * Bs rlR (rls1 ++ [(⟨.slice (some ⟨b31, 0, none⟩) 1 1, [(.slice a30 64 c30, seenL (lineF xs i))], -1⟩ : RL)]) * pt b13 (cl ([.int .i64 ((n * 64 : Nat) : Int), .slice a34 (i + 1) c34, .int .i64 0, .slice none 0 0, .int .i64 0, .bool false]) 114) * Sl 2 (.slice a34 (i + 1) c34) (i + 1) ((rls1 ++ [(⟨.slice (some ⟨b31, 0, none⟩) 1 1, [(.slice a30 64 c30, seenL (lineF xs i))], -1⟩ : RL)]).flatMap rcl)) (fun _ _ h => ?_) ?_
            · have e : rlR (⟨.slice (some ⟨b31, 0, none⟩) 1 1, [(.slice a30 64 c30, seenL (lineF xs i))], -1⟩ : RL) = Sl 1 (.slice (some ⟨b31, 0, none⟩) 1 1) 1 [.slice a30 64 c30] * SlR 1 (.slice a30 64 c30) 64 (bys ((xs.drop (i * 64)).take 64)) := by
                show Sl 1 _ 1 [_] * Bs rowR [_] = _
                rw [bs_cons, bs_nil, emp_star]
                show _ * SlR 1 _ 64 (bys (lb (seenL (lineF xs i)))) = _
                rw [hlf]
              rw [bs_snoc, e]
              have h1 := sl_share (h.perm (show _ = F * Bs rlR rls1 * pt b13 (cl ([.int .i64 ((n * 64 : Nat) : Int), .slice a34 (i + 1) c34, .int .i64 0, .slice none 0 0, .int .i64 0, .bool false]) 114) * Sl 2 (.slice a34 (i + 1) c34) (i + 1) ((rls1 ++ [(⟨.slice (some ⟨b31, 0, none⟩) 1 1, [(.slice a30 64 c30, seenL (lineF xs i))], -1⟩ : RL)]).flatMap rcl) * pt b31 (cl [.slice a30 64 c30] 32) * Sl 1 (.slice a30 64 c30) 64 (bys ((xs.drop (i * 64)).take 64)) by ac_rfl))
              have h2 := sl_new (k := 1) (n := 1) (cap := 1) (xs := [.slice a30 64 c30]) (h1.perm (star_swap _ _ _)) (by decide) (Nat.le_refl _) rfl
              exact h2.perm (by ac_rfl)
            refine tc_reg ?_; refine tlm ?_; refine tv (by first | exact o_addI rfl rfl (by omega) | exact o_add rfl rfl) ?_; refine tl_env (d := 19) (v := .int .i64 (((i + 1) * 64 : Nat) : Int)) (by show Value.int .i64 _ = _; congr 1; omega) ?_; refine tla ?_; refine nq ?_; exact ⟨_, by omega, i + 1, a34, c34, rls1 ++ [(⟨.slice (some ⟨b31, 0, none⟩) 1 1, [(.slice a30 64 c30, seenL (lineF xs i))], -1⟩ : RL)], by omega, hnext, rfl, rfl, rfl, rfl, rfl⟩
          · skip
            refine oh_x (i := 11) (listed' := #[tt,tt,tt,tt,ff,tt,tt,tt,tt,tt,tt,tt,ff,ff,ff,ff,ff,ff]) rfl rfl rfl (o_buildSlice1 Tryz.underlying88 sz32 z32 rfl rfl) ?_; rintro _ _ ⟨b31, rfl, rfl⟩; refine ⟨by repeat (first | with_reducible exact dr_refl | apply dr_keep | apply dr_drop), ?_⟩; refine th_take (i := 12) (listed' := #[tt,tt,tt,tt,ff,tt,tt,tt,tt,tt,tt,tt,tt,ff,ff,ff,ff,ff]) rfl (by kernel_rfl) (by kernel_rfl) (by kernel_rfl) rfl rfl (o_bS (l := [_, _]) (pv_cons (by conv => lhs; whnf) (pv_cons (by conv => lhs; whnf) pv_nil)) Tryz.underlying116 z116 (pl116 Tryz.underlying116) rfl) ?_; refine th_two (i := 4) (j := 13) (by kernel_rfl) ?_ ?_
            · skip
              refine oh_v (i := 4) (listed' := #[tt,tt,tt,tt,tt,tt,tt,tt,tt,tt,tt,tt,tt,ff,ff,ff,ff,ff]) rfl rfl rfl (o_load p112 rfl (by repeat (first | with_reducible exact has_here | with_reducible exact has_pt | apply has_left)) rfl) ?_; refine th_one (i := 13) (by kernel_rfl) ?_; refine oh_x (i := 13) (listed' := #[tt,tt,tt,tt,tt,tt,tt,tt,tt,tt,tt,tt,tt,tt,ff,ff,ff,ff]) rfl rfl rfl (o_buildSliceK (k := 2) (l := [.slice (some ⟨b31, 0, none⟩) 1 1, .int .i64 (-1)]) Tryz.underlying112 sz116 z116 rfl rfl (by decide)) ?_; rintro _ _ ⟨b33, rfl, rfl⟩; refine ⟨by repeat (first | with_reducible exact dr_refl | apply dr_keep | apply dr_drop), ?_⟩; refine th_one (i := 14) (by kernel_rfl) ?_; refine oh_x (i := 14) (listed' := #[tt,tt,tt,tt,tt,tt,tt,tt,tt,tt,tt,tt,tt,tt,tt,ff,ff,ff]) rfl rfl rfl (o_apB Tryz.underlying112 Tryz.underlying112 sz116 by116 z116 rfl (by decide) (by decide) rfl rfl rfl (by repeat (first | with_reducible exact ct_here | apply ct_left)) rfl rfl (by omega) (fm_sn rls1 ((⟨.slice (some ⟨b31, 0, none⟩) 1 1, [(.slice a30 64 c30, seenL (lineF xs i))], -1⟩ : RL)))) ?_; rintro _ _ ⟨a34, c34, rfl, hc34, rfl⟩; refine ⟨by repeat (first | with_reducible exact dr_refl | apply dr_keep | apply dr_drop), ?_⟩; refine th_take (i := 15) (listed' := #[tt,tt,tt,tt,tt,tt,tt,tt,tt,tt,tt,tt,tt,tt,tt,tt,ff,ff]) rfl (by kernel_rfl) (by kernel_rfl) (by kernel_rfl) rfl rfl (o_nilCheck rfl) ?_
              refine th_take (i := 16) (listed' := #[tt,tt,tt,tt,tt,tt,tt,tt,tt,tt,tt,tt,tt,tt,tt,tt,tt,ff]) rfl (by kernel_rfl) (by kernel_rfl) (by kernel_rfl) rfl rfl (o_fieldAddr (o := 1) Tryz.underlying114 rfl rfl sz112 rfl) ?_; refine th_one (i := 17) (by kernel_rfl) ?_; refine oh_u (i := 17) (listed' := #[tt,tt,tt,tt,tt,tt,tt,tt,tt,tt,tt,tt,tt,tt,tt,tt,tt,tt]) rfl rfl rfl (o_stU (l' := [.int .i64 ((n * 64 : Nat) : Int), .slice a34 (i + 1) c34, .int .i64 0, .slice none 0 0, .int .i64 0, .bool false]) rfl (by repeat (first | with_reducible exact upd_here | with_reducible exact upd_pt | apply upd_left)) sz112 rfl rfl (by show 1 < 6; decide) rfl) (by repeat (first | with_reducible exact dr_refl | apply dr_keep | apply dr_drop)) ?_; refine th_done (by kernel_rfl) ?_; refine q_block_n (q_then_n ?_)
              have hnext : (rls1 ++ [(⟨.slice (some ⟨b31, 0, none⟩) 1 1, [(.slice a30 64 c30, seenL (lineF xs i))], -1⟩ : RL)]).map RL.l = (fromS n xs).ls.take (i + 1) := by
                rw [List.map_append, hp1, List.take_succ_eq_append_getElem (by rw [fromS_len]; exact hi), fromS_at xs hi]; rfl
              refine tc_pre (A' := F * Bs rlR (rls1 ++ [(⟨.slice (some ⟨b31, 0, none⟩) 1 1, [(.slice a30 64 c30, seenL (lineF xs i))], -1⟩ : RL)]) * pt b13 (cl ([.int .i64 ((n * 64 : Nat) : Int), .slice a34 (i + 1) c34, .int .i64 0, .slice none 0 0, .int .i64 0, .bool false]) 114) * Sl 2 (.slice a34 (i + 1) c34) (i + 1) ((rls1 ++ [(⟨.slice (some ⟨b31, 0, none⟩) 1 1, [(.slice a30 64 c30, seenL (lineF xs i))], -1⟩ : RL)]).flatMap rcl)) (fun _ _ h => ?_) ?_
              · have e : rlR (⟨.slice (some ⟨b31, 0, none⟩) 1 1, [(.slice a30 64 c30, seenL (lineF xs i))], -1⟩ : RL) = Sl 1 (.slice (some ⟨b31, 0, none⟩) 1 1) 1 [.slice a30 64 c30] * SlR 1 (.slice a30 64 c30) 64 (bys ((xs.drop (i * 64)).take 64)) := by
                  show Sl 1 _ 1 [_] * Bs rowR [_] = _
                  rw [bs_cons, bs_nil, emp_star]
                  show _ * SlR 1 _ 64 (bys (lb (seenL (lineF xs i)))) = _
                  rw [hlf]
                rw [bs_snoc, e]
                have h1 := sl_share (h.perm (show _ = F * Bs rlR rls1 * pt b13 (cl ([.int .i64 ((n * 64 : Nat) : Int), .slice a34 (i + 1) c34, .int .i64 0, .slice none 0 0, .int .i64 0, .bool false]) 114) * Sl 2 (.slice a34 (i + 1) c34) (i + 1) ((rls1 ++ [(⟨.slice (some ⟨b31, 0, none⟩) 1 1, [(.slice a30 64 c30, seenL (lineF xs i))], -1⟩ : RL)]).flatMap rcl) * pt b31 (cl [.slice a30 64 c30] 32) * Sl 1 (.slice a30 64 c30) 64 (bys ((xs.drop (i * 64)).take 64)) by ac_rfl))
                have h2 := sl_new (k := 1) (n := 1) (cap := 1) (xs := [.slice a30 64 c30]) (h1.perm (star_swap _ _ _)) (by decide) (Nat.le_refl _) rfl
                exact h2.perm (by ac_rfl)
              refine tc_reg ?_; refine tlm ?_; refine tv (by first | exact o_addI rfl rfl (by omega) | exact o_add rfl rfl) ?_; refine tl_env (d := 19) (v := .int .i64 (((i + 1) * 64 : Nat) : Int)) (by show Value.int .i64 _ = _; congr 1; omega) ?_; refine tla ?_; refine nq ?_; exact ⟨_, by omega, i + 1, a34, c34, rls1 ++ [(⟨.slice (some ⟨b31, 0, none⟩) 1 1, [(.slice a30 64 c30, seenL (lineF xs i))], -1⟩ : RL)], by omega, hnext, rfl, rfl, rfl, rfl, rfl⟩
            · skip
              refine oh_x (i := 13) (listed' := #[tt,tt,tt,tt,ff,tt,tt,tt,tt,tt,tt,tt,tt,tt,ff,ff,ff,ff]) rfl rfl rfl (o_buildSliceK (k := 2) (l := [.slice (some ⟨b31, 0, none⟩) 1 1, .int .i64 (-1)]) Tryz.underlying112 sz116 z116 rfl rfl (by decide)) ?_; rintro _ _ ⟨b33, rfl, rfl⟩; refine ⟨by repeat (first | with_reducible exact dr_refl | apply dr_keep | apply dr_drop), ?_⟩; refine th_one (i := 4) (by kernel_rfl) ?_; refine oh_v (i := 4) (listed' := #[tt,tt,tt,tt,tt,tt,tt,tt,tt,tt,tt,tt,tt,tt,ff,ff,ff,ff]) rfl rfl rfl (o_load p112 rfl (by repeat (first | with_reducible exact has_here | with_reducible exact has_pt | apply has_left)) rfl) ?_; refine th_one (i := 14) (by kernel_rfl) ?_; refine oh_x (i := 14) (listed' := #[tt,tt,tt,tt,tt,tt,tt,tt,tt,tt,tt,tt,tt,tt,tt,ff,ff,ff]) rfl rfl rfl (o_apB Tryz.underlying112 Tryz.underlying112 sz116 by116 z116 rfl (by decide) (by decide) rfl rfl rfl (by repeat (first | with_reducible exact ct_here | apply ct_left)) rfl rfl (by omega) (fm_sn rls1 ((⟨.slice (some ⟨b31, 0, none⟩) 1 1, [(.slice a30 64 c30, seenL (lineF xs i))], -1⟩ : RL)))) ?_; rintro _ _ ⟨a34, c34, rfl, hc34, rfl⟩; refine ⟨by repeat (first | with_reducible exact dr_refl | apply dr_keep | apply dr_drop), ?_⟩; refine th_take (i := 15) (listed' := #[tt,tt,tt,tt,tt,tt,tt,tt,tt,tt,tt,tt,tt,tt,tt,tt,ff,ff]) rfl (by kernel_rfl) (by kernel_rfl) (by kernel_rfl) rfl rfl (o_nilCheck rfl) ?_
              refine th_take (i := 16) (listed' := #[tt,tt,tt,tt,tt,tt,tt,tt,tt,tt,tt,tt,tt,tt,tt,tt,tt,ff]) rfl (by kernel_rfl) (by kernel_rfl) (by kernel_rfl) rfl rfl (o_fieldAddr (o := 1) Tryz.underlying114 rfl rfl sz112 rfl) ?_; refine th_one (i := 17) (by kernel_rfl) ?_; refine oh_u (i := 17) (listed' := #[tt,tt,tt,tt,tt,tt,tt,tt,tt,tt,tt,tt,tt,tt,tt,tt,tt,tt]) rfl rfl rfl (o_stU (l' := [.int .i64 ((n * 64 : Nat) : Int), .slice a34 (i + 1) c34, .int .i64 0, .slice none 0 0, .int .i64 0, .bool false]) rfl (by repeat (first | with_reducible exact upd_here | with_reducible exact upd_pt | apply upd_left)) sz112 rfl rfl (by show 1 < 6; decide) rfl) (by repeat (first | with_reducible exact dr_refl | apply dr_keep | apply dr_drop)) ?_; refine th_done (by kernel_rfl) ?_; refine q_block_n (q_then_n ?_)
              have hnext : (rls1 ++ [(⟨.slice (some ⟨b31, 0, none⟩) 1 1, [(.slice a30 64 c30, seenL (lineF xs i))], -1⟩ : RL)]).map RL.l = (fromS n xs).ls.take (i + 1) := by
                rw [List.map_append, hp1, List.take_succ_eq_append_getElem (by rw [fromS_len]; exact hi), fromS_at xs hi]; rfl
              refine tc_pre (A' := F * Bs rlR (rls1 ++ [(⟨.slice (some ⟨b31, 0, none⟩) 1 1, [(.slice a30 64 c30, seenL (lineF xs i))], -1⟩ : RL)]) * pt b13 (cl ([.int .i64 ((n * 64 : Nat) : Int), .slice a34 (i + 1) c34, .int .i64 0, .slice none 0 0, .int .i64 0, .bool false]) 114) * Sl 2 (.slice a34 (i + 1) c34) (i + 1) ((rls1 ++ [(⟨.slice (some ⟨b31, 0, none⟩) 1 1, [(.slice a30 64 c30, seenL (lineF xs i))], -1⟩ : RL)]).flatMap rcl)) (fun _ _ h => ?_) ?_
              · have e : rlR (⟨.slice (some ⟨b31, 0, none⟩) 1 1, [(.slice a30 64 c30, seenL (lineF xs i))], -1⟩ : RL) = Sl 1 (.slice (some ⟨b31, 0, none⟩) 1 1) 1 [.slice a30 64 c30] * SlR 1 (.slice a30 64 c30) 64 (bys ((xs.drop (i * 64)).take 64)) := by
                  show Sl 1 _ 1 [_] * Bs rowR [_] = _
                  rw [bs_cons, bs_nil, emp_star]
                  show _ * SlR 1 _ 64 (bys (lb (seenL (lineF xs i)))) = _
                  rw [hlf]
                rw [bs_snoc, e]
                have h1 := sl_share (h.perm (show _ = F * Bs rlR rls1 * pt b13 (cl ([.int .i64 ((n * 64 : Nat) : Int), .slice a34 (i + 1) c34, .int .i64 0, .slice none 0 0, .int .i64 0, .bool false]) 114) * Sl 2 (.slice a34 (i + 1) c34) (i + 1) ((rls1 ++ [(⟨.slice (some ⟨b31, 0, none⟩) 1 1, [(.slice a30 64 c30, seenL (lineF xs i))], -1⟩ : RL)]).flatMap rcl) * pt b31 (cl [.slice a30 64 c30] 32) * Sl 1 (.slice a30 64 c30) 64 (bys ((xs.drop (i * 64)).take 64)) by ac_rfl))
                have h2 := sl_new (k := 1) (n := 1) (cap := 1) (xs := [.slice a30 64 c30]) (h1.perm (star_swap _ _ _)) (by decide) (Nat.le_refl _) rfl
                exact h2.perm (by ac_rfl)
              refine tc_reg ?_; refine tlm ?_; refine tv (by first | exact o_addI rfl rfl (by omega) | exact o_add rfl rfl) ?_; refine tl_env (d := 19) (v := .int .i64 (((i + 1) * 64 : Nat) : Int)) (by show Value.int .i64 _ = _; congr 1; omega) ?_; refine tla ?_; refine nq ?_; exact ⟨_, by omega, i + 1, a34, c34, rls1 ++ [(⟨.slice (some ⟨b31, 0, none⟩) 1 1, [(.slice a30 64 c30, seenL (lineF xs i))], -1⟩ : RL)], by omega, hnext, rfl, rfl, rfl, rfl, rfl⟩
      · obtain rfl : i = n := by simp at h; omega
        rw [List.take_of_length_le (by rw [fromS_len]; exact Nat.le_refl _)] at hp1
        refine tc_exit ?_; refine q_then_e (q_then_e (q_block_x (q_then_n ?_))); refine sr ?_; refine tlm ?_; refine tla ?_; refine tla ?_; refine nq ?_; refine tc_ret ?_; refine ⟨.tuple #[.pointer (some ⟨b13, 0, none⟩), .int .i64 0], F * RDev b13 (fromS i xs), res2 rfl rfl rfl, fun _ _ h => ?_, b13, rfl, rfl⟩; refine rdev_back (lv := .slice aL i cL) (rls := rls1) (av := .slice none 0 0) (kvs := []) (fromS_wf hn hn2 hb) hp1 rfl _ _ ?_
        have h1 := sl_nil (k := 2) h
        refine h1.perm ?_
        unfold RDevC ArmsR rdcs
        rw [fromS_len]
        show _ = F * (_ * _ * _ * (Sl 2 (.slice none 0 0) 0 [] * emp))
        rw [star_emp]
        rw [show (fromS i xs).ops = 0 from rfl, show (fromS i xs).cnt = 0 from rfl, show (fromS i xs).off = false from rfl]
        ac_rfl
theorem rOps_c {A R : SP} {C : SP → SP} {r : Nat} {s : DevS} (hc : Ct A (RDev r s) R C := by repeat (first | with_reducible exact ct_here | apply ct_left))  :
    Fn Tryz.prog 48 #[.pointer (some ⟨r, 0, none⟩)] A (fun v B => v = .int .i64 s.ops ∧ A = B) := by
  obtain ⟨rfl, hC⟩ := hc
  exact fn_rdevR0 fun A lv rls av hR => rOps_f A hR
theorem rOff_c {A R : SP} {C : SP → SP} {r : Nat} {s : DevS} (hc : Ct A (RDev r s) R C := by repeat (first | with_reducible exact ct_here | apply ct_left))  :
    Fn Tryz.prog 50 #[.pointer (some ⟨r, 0, none⟩)] A (fun v B => v = .bool s.off ∧ A = B) := by
  obtain ⟨rfl, hC⟩ := hc
  exact fn_rdevR0 fun A lv rls av hR => rOff_f A hR
theorem rFlush_c {A R : SP} {C : SP → SP} {r : Nat} {s : DevS} (hc : Ct A (RDev r s) R C := by repeat (first | with_reducible exact ct_here | apply ct_left)) {p : Int} (hp : -9223372036854775808 ≤ p ∧ p ≤ 9223372036854775807 := by omega) :
    Fn Tryz.prog 38 #[.pointer (some ⟨r, 0, none⟩), .int .i64 p] A (fun r_ B => ∃ e s2, fl1 p s = (e, s2) ∧ r_ = .int .i64 e ∧ B = C (RDev r s2)) := by
  obtain ⟨rfl, hC⟩ := hc
  exact (rFlush_f R hp).mono fun _ _ h => ⟨(fl1 p s).1, (fl1 p s).2, rfl, h.1, by rw [hC]; exact h.2⟩
theorem rFence_c {A R : SP} {C : SP → SP} {r : Nat} {s : DevS} (hc : Ct A (RDev r s) R C := by repeat (first | with_reducible exact ct_here | apply ct_left))  :
    Fn Tryz.prog 40 #[.pointer (some ⟨r, 0, none⟩)] A (fun r_ B => ∃ e s2, fe s = (e, s2) ∧ r_ = .int .i64 e ∧ B = C (RDev r s2)) := by
  obtain ⟨rfl, hC⟩ := hc
  exact (rFence_f R).mono fun _ _ h => ⟨(fe s).1, (fe s).2, rfl, h.1, by rw [hC]; exact h.2⟩
theorem rWake_c {A R : SP} {C : SP → SP} {r : Nat} {s : DevS} (hc : Ct A (RDev r s) R C := by repeat (first | with_reducible exact ct_here | apply ct_left))  :
    Fn Tryz.prog 46 #[.pointer (some ⟨r, 0, none⟩)] A (fun r_ B => r_ = .int .i64 (if s.off then 0 else 3) ∧ B = C (RDev r { s with off := false })) := by
  obtain ⟨rfl, hC⟩ := hc
  exact (rWake_f R).mono fun _ _ h => ⟨h.1, by rw [hC]; exact h.2⟩
theorem rCrash_c {A R : SP} {C : SP → SP} {r : Nat} {s : DevS} (hc : Ct A (RDev r s) R C := by repeat (first | with_reducible exact ct_here | apply ct_left)) {a : Option Addr} {c m : Nat} {keep : List Int} (hr : Rs R a (ints keep) := by repeat (first | assumption | with_reducible exact rs_sl | with_reducible exact rs_pt0 | exact rs_none | apply Rs.left)) (hk : ∀ k ∈ keep, k ≤ 9223372036854775807 := by assumption) (hm : keep.length = m := by first | assumption | rfl) (hkl : m ≤ 17592186044416 := by omega) :
    Fn Tryz.prog 44 #[.pointer (some ⟨r, 0, none⟩), .slice a m c] A (fun r_ B => ∃ e s2, crS keep s = (e, s2) ∧ r_ = .int .i64 e ∧ B = C (RDev r s2)) := by
  obtain ⟨rfl, hC⟩ := hc
  exact (rCrash_f R hr hk hm hkl).mono fun _ _ h => ⟨(crS keep s).1, (crS keep s).2, rfl, h.1, by rw [hC]; exact h.2⟩
theorem rStore_c {A R : SP} {C : SP → SP} {r : Nat} {s : DevS} (hc : Ct A (RDev r s) R C := by repeat (first | with_reducible exact ct_here | apply ct_left)) {a : Option Addr} {c m : Nat} {p : Int} {xs : List Nat} (hr : Rs R a (bys xs) := by repeat (first | assumption | with_reducible exact rs_sl | with_reducible exact rs_pt0 | exact rs_none | apply Rs.left)) (hm : xs.length = m := by first | assumption | rfl) (hmc : m ≤ c := by first | assumption | omega) (hb : ∀ x ∈ xs, x < 256 := by assumption) (hml : m ≤ 140737488351232 := by omega) (hp : -9223372036854775808 ≤ p ∧ p ≤ 9223372036854775807 := by omega) (hroom : rdy s.ls.length s.off p m = 0 → Room m s := by assumption) :
    Fn Tryz.prog 36 #[.pointer (some ⟨r, 0, none⟩), .int .i64 p, .slice a m c] A (fun r_ B => ∃ e s2, sto p xs s = (e, s2) ∧ r_ = .int .i64 e ∧ B = C (RDev r s2)) := by
  obtain ⟨rfl, hC⟩ := hc
  exact (rStoreW_f R hr hm hmc hb hml hp hroom).mono fun _ _ h => ⟨(sto p xs s).1, (sto p xs s).2, rfl, h.1, by rw [hC]; exact h.2⟩
theorem rArm_c {A R : SP} {C : SP → SP} {r : Nat} {s : DevS} (hc : Ct A (RDev r s) R C := by repeat (first | with_reducible exact ct_here | apply ct_left)) {a : Option Addr} {c m : Nat} {kvs : List Value} {ars : List (Int × List Int)} (hr : RdA R a kvs ars) (hm : ars.length = m := by first | assumption | rfl) (hl : m ≤ 17592186044416 := by omega) (hk : ∀ x ∈ ars, (-9223372036854775808 ≤ x.1 ∧ x.1 ≤ 9223372036854775807) ∧ x.2.length ≤ 17592186044416 ∧ ∀ k ∈ x.2, k ≤ 9223372036854775807) :
    Fn Tryz.prog 42 #[.pointer (some ⟨r, 0, none⟩), .slice a m c] A (fun r_ B => ∃ e s2, armS ars s = (e, s2) ∧ r_ = .int .i64 e ∧ B = C (RDev r s2)) := by
  obtain ⟨rfl, hC⟩ := hc
  exact (rArm_f R hr hm hl hk).mono fun _ _ h => ⟨(armS ars s).1, (armS ars s).2, rfl, h.1, by rw [hC]; exact h.2⟩
theorem rImage_c {A R : SP} {C : SP → SP} {r : Nat} {s : DevS} (hc : Ct A (RDev r s) R C := by repeat (first | with_reducible exact ct_here | apply ct_left))  :
    Fn Tryz.prog 55 #[.pointer (some ⟨r, 0, none⟩)] A (fun v B => ∃ a c, v = .slice a (s.ls.length * 64) c ∧ s.ls.length * 64 ≤ c ∧ B = A * Sl 1 (.slice a (s.ls.length * 64) c) (s.ls.length * 64) (bys (imgS s))) := by
  obtain ⟨rfl, hC⟩ := hc
  exact (fn_rdevR (q := fun v X => ∃ a c, v = .slice a (s.ls.length * 64) c ∧ s.ls.length * 64 ≤ c ∧ X = Sl 1 (.slice a (s.ls.length * 64) c) (s.ls.length * 64) (bys (imgS s))) fun A lv rls av hR => rImage_f A hR).mono fun v B ⟨X, e, a, c, h1, h2, h3⟩ => ⟨a, c, h1, h2, by rw [e, h3]⟩
theorem rContents_c {A R : SP} {C : SP → SP} {r : Nat} {s : DevS} (hc : Ct A (RDev r s) R C := by repeat (first | with_reducible exact ct_here | apply ct_left)) {q : Nat} (hq : q < s.ls.length := by omega) :
    Fn Tryz.prog 58 #[.pointer (some ⟨r, 0, none⟩), .int .i64 (q : Nat)] A (fun v B => ∃ a c vs, v = .slice a (ctS q s).length c ∧ (ctS q s).length ≤ c ∧ B = A * Parts vs (ctS q s) * Sl 1 (.slice a (ctS q s).length c) (ctS q s).length vs) := by
  obtain ⟨rfl, hC⟩ := hc
  exact (fn_rdevR (q := fun v X => ∃ a c vs, v = .slice a (ctS q s).length c ∧ (ctS q s).length ≤ c ∧ X = Parts vs (ctS q s) * Sl 1 (.slice a (ctS q s).length c) (ctS q s).length vs) fun A lv rls av hR => rContents_f A hR hq).mono fun v B ⟨X, e, a, c, vs, h1, h2, h3⟩ => ⟨a, c, vs, h1, h2, by rw [e, h3]; simp only [star_assoc]⟩
theorem rContentsNo_c {A R : SP} {C : SP → SP} {r : Nat} {s : DevS} (hc : Ct A (RDev r s) R C := by repeat (first | with_reducible exact ct_here | apply ct_left)) {p : Int} (hno : p < 0 ∨ (s.ls.length : Int) ≤ p := by omega) :
    Fn Tryz.prog 58 #[.pointer (some ⟨r, 0, none⟩), .int .i64 p] A (fun v B => v = .slice none 0 0 ∧ A = B) := by
  obtain ⟨rfl, hC⟩ := hc
  exact fn_rdevR0 fun A lv rls av hR => rContentsNo_f A hR hno
theorem rLoad_c {A R : SP} {C : SP → SP} {r : Nat} {s : DevS} (hc : Ct A (RDev r s) R C := by repeat (first | with_reducible exact ct_here | apply ct_left)) {p m : Nat} (hoff : s.off = false := by assumption) (hpm : p + m ≤ s.ls.length * 64 := by omega) :
    Fn Tryz.prog 89 #[.pointer (some ⟨r, 0, none⟩), .int .i64 (p : Nat), .int .i64 (m : Nat)] A (fun v B => ∃ a c, v = .tuple #[.slice a m c, .int .i64 0] ∧ m ≤ c ∧ B = A * Sl 1 (.slice a m c) m (bys (((imgS s).drop p).take m))) := by
  obtain ⟨rfl, hC⟩ := hc
  exact (fn_rdevR (q := fun v X => ∃ a c, v = .tuple #[.slice a m c, .int .i64 0] ∧ m ≤ c ∧ X = Sl 1 (.slice a m c) m (bys (((imgS s).drop p).take m))) fun A lv rls av hR => rLoad_f A hR hoff hpm).mono fun v B ⟨X, e, a, c, h1, h2, h3⟩ => ⟨a, c, h1, h2, by rw [e, h3]⟩
end Go.Vl

set_option linter.unusedVariables false
set_option linter.unusedSimpArgs false
namespace Go.Vl
open Go Go.Proofs
theorem Foc.words {A A' : SP} {hvs : List Value} {held : List (List Nat)} (h : Foc A (Words hvs held) (Words hvs held) A') (hl : hvs.length = held.length) {g : Gh} {w : World} (hs : sat g w A) :
    ∀ i (hi : i < held.length), ∃ a c, hvs[i]? = some (.slice a held[i].length c) ∧ Rd A a (wds held[i]) := fun i hi => by
  obtain ⟨R, hA, _⟩ := h
  obtain ⟨S, h1, _⟩ := words_get hl hi
  rw [h1, ← star_assoc] at hA
  obtain ⟨a, c, e, _, _, hr⟩ := sl_have' hA hs
  exact ⟨a, c, by rw [List.getElem?_eq_getElem (by omega), e], hr⟩
/-- What PmemLasts looks at, of a book and a device behind a loss of power. -/
structure Lasts (P : PlS) (s2 : DevS) : Prop where
  len : s2.ls.length = P.marks.length
  wf : WfD s2
  wfp : WfD P.s
  seen : ∀ i (h : i < P.seen.length), nm (((imgS P.s).drop (8 * i)).take 8) = P.seen[i]
  held : ∀ i (h : i < P.held.length), nm (((imgS s2).drop (8 * i)).take 8) ∈ P.held[i]
  last : ∀ i (h : i < P.sure.length) (h' : i < P.last.length), P.sure[i] = true → nm (((imgS s2).drop (8 * i)).take 8) = P.last[i]
end Go.Vl

set_option linter.unusedVariables false
set_option linter.unusedSimpArgs false
namespace Go.Vl
open Go Go.Proofs
/-- The book tells the device. -/
structure InvL (P : PlS) (w : Nat) (l : LineS) : Prop where
  seen : (seenL l).getD (w % 8) 0 = P.seen.getD w 0
  held : ∀ σ ∈ l.st, σ.getD (w % 8) 0 ∈ P.held.getD w []
  last : P.sure.getD w false = true → ∀ σ ∈ l.st, σ.getD (w % 8) 0 = P.last.getD w 0
  mark : P.marks.getD (w / 8) 0 = 1 → l.mark = (l.st.length : Int) - 1
def Inv (P : PlS) : Prop := ∀ w l, w < P.seen.length → P.s.ls[w / 8]? = some l → InvL P w l
end Go.Vl

set_option linter.unusedVariables false
set_option linter.unusedSimpArgs false
namespace Go.Vl
open Go Go.Proofs
instance : Inhabited StepC := ⟨⟨0, 0, .bool false, 0, .bool false, .bool false, .bool false⟩⟩
end Go.Vl

set_option linter.unusedVariables false
set_option linter.unusedSimpArgs false
namespace Go.Vl
open Go Go.Proofs
attribute [local irreducible] Sl pt ro
theorem rin9_f (A : SP) {r : Nat} {lv av : Value} {rls : List RL} {s : DevS} (hR : RdevR A r lv rls av s) {p m : Int} (hp : -9223372036854775808 ≤ p ∧ p ≤ 9223372036854775807) (hm : 0 ≤ m ∧ m ≤ 9223372036854775807) :
    Fn Tryz.prog 78 #[.pointer (some ⟨r, 0, none⟩), .int .i64 p, .int .i64 m] (A) (fun v B => v = .bool (decide (rdy s.ls.length false p m = 0)) ∧ A = B) := by
  refine fn_enterW (args := [.pointer (some ⟨r, 0, none⟩), .int .i64 p, .int .i64 m]) Tryz.func78 rfl Tryz.ntmps78 (by simp) ?_
  have htop := hR.wf.top
  refine sr ?_; refine tla ?_; refine nq ?_; refine sr ?_; refine tlm ?_; refine tv (o_geq rfl rfl) ?_; refine tlm ?_; refine tl_bool (d := 9) rfl (fun h => ?_) (fun h => ?_)
  · try simp only [lv1, lv2, lv3, lv4, lv5, lv6, Bool.not_true, Bool.not_false] at h
    refine tlm ?_; refine tlm ?_; refine tv (o_nilCheck rfl) ?_; refine tv (o_fieldAddr (o := 0) Tryz.underlying114 rfl rfl sz3 rfl) ?_; refine tv (o_ldP (a := some ⟨r, 0, none⟩) (i := 0) p3 rfl (by repeat (first | exact hR.d | apply Rs.left)) rfl) ?_; refine tv (o_leq rfl rfl) ?_; refine tv (o_pick_t rfl (by conv => lhs; whnf)) ?_; refine tlm ?_; refine tl_bool (d := 17) rfl (fun h => ?_) (fun h => ?_)
    · try simp only [lv1, lv2, lv3, lv4, lv5, lv6, Bool.not_true, Bool.not_false] at h
      refine tlm ?_; refine tlm ?_; refine tv (o_nilCheck rfl) ?_; refine tv (o_fieldAddr (o := 0) Tryz.underlying114 rfl rfl sz3 rfl) ?_; refine tv (o_ldP (a := some ⟨r, 0, none⟩) (i := 0) p3 rfl (by repeat (first | exact hR.d | apply Rs.left)) rfl) ?_; refine tlm ?_; refine tv (by first | exact o_subI rfl rfl (by omega) | exact o_sub rfl rfl) ?_; refine tv (o_leq rfl rfl) ?_; refine tv (o_pick_t rfl (by conv => lhs; whnf)) ?_; refine tla ?_; refine nq ?_; refine tc_ret ?_; refine ⟨.bool (decide (m ≤ ((s.ls.length * 64 : Nat) : Int) - p)), _, res1 rfl rfl, ?_, (by congr 1; rw [decide_eq_decide]; unfold rdy; rw [if_neg (by decide)]; split <;> constructor <;> intro _ <;> omega), rfl⟩; exact Dr.sat (by repeat (first | with_reducible exact dr_refl | apply dr_keep | apply dr_drop))
    · try simp only [lv1, lv2, lv3, lv4, lv5, lv6, Bool.not_true, Bool.not_false] at h
      refine tk ?_; refine tk ?_; refine tk ?_; refine tk ?_; refine tk ?_; refine tk ?_; refine tk ?_; refine tk ?_; refine tv (o_pick_f rfl (by conv => lhs; whnf)) ?_; refine tla ?_; refine nq ?_; refine tc_ret ?_; refine ⟨.bool false, _, res1 rfl rfl, ?_, (by rw [decide_eq_false]; unfold rdy; rw [if_neg (by decide), if_pos (by omega)]; decide), rfl⟩; exact Dr.sat (by repeat (first | with_reducible exact dr_refl | apply dr_keep | apply dr_drop))
  · try simp only [lv1, lv2, lv3, lv4, lv5, lv6, Bool.not_true, Bool.not_false] at h
    refine tk ?_; refine tk ?_; refine tk ?_; refine tk ?_; refine tk ?_; refine tk ?_; refine tv (o_pick_f rfl (by conv => lhs; whnf)) ?_; refine tlm ?_; refine tk ?_; refine tk ?_; refine tk ?_; refine tk ?_; refine tk ?_; refine tk ?_; refine tk ?_; refine tk ?_; refine tv (o_pick_f rfl (by conv => lhs; whnf)) ?_; refine tla ?_; refine nq ?_; refine tc_ret ?_; refine ⟨.bool false, _, res1 rfl rfl, ?_, (by rw [decide_eq_false]; unfold rdy; rw [if_neg (by decide), if_pos (by omega)]; decide), rfl⟩; exact Dr.sat (by repeat (first | with_reducible exact dr_refl | apply dr_keep | apply dr_drop))
theorem rin9_c {A R : SP} {C : SP → SP} {r : Nat} {s : DevS} (hc : Ct A (RDev r s) R C := by repeat (first | with_reducible exact ct_here | apply ct_left)) {p m : Int} (hp : -9223372036854775808 ≤ p ∧ p ≤ 9223372036854775807 := by omega) (hm : 0 ≤ m ∧ m ≤ 9223372036854775807 := by omega) :
    Fn Tryz.prog 78 #[.pointer (some ⟨r, 0, none⟩), .int .i64 p, .int .i64 m] A (fun v B => v = .bool (decide (rdy s.ls.length false p m = 0)) ∧ A = B) := by
  obtain ⟨rfl, hC⟩ := hc
  exact fn_rdevR0 fun A lv rls av hR => rin9_f A hR hp hm
theorem flF_s1 {k k' q : Nat} {s s2 : DevS} (h : fl1 ((q * 64 : Nat) : Int) s = (0, s2)) (hk : k = k' + 1) : flF k q s = flF k' (q + 1) s2 := by
  subst hk; show (if _ then _ else _) = _; rw [h, if_neg (by simp)]
theorem flF_s2 {k k' q : Nat} {s s2 : DevS} {e : Int} (h : fl1 ((q * 64 : Nat) : Int) s = (e, s2)) (he : e ≠ 0) (hk : k = k' + 1) : flF k q s = (e, s2) := by
  subst hk; show (if _ then _ else _) = _; rw [h, if_pos he]
theorem wfR_ct {A R : SP} {C : SP → SP} {r : Nat} {s : DevS} (hc : Ct A (RDev r s) R C) {g : Gh} {w : World} (hs : sat g w A) : WfD s := by
  obtain ⟨rfl, _⟩ := hc; exact (rdev_iff.1 hs).1
theorem rlast_c {A R : SP} {C : SP → SP} {r : Nat} {s : DevS} (hc : Ct A (RDev r s) R C := by repeat (first | with_reducible exact ct_here | apply ct_left)) {p m : Nat} (h1 : 1 ≤ m := by omega) (hpm : p + m ≤ s.ls.length * 64 := by omega) :
    Fn Tryz.prog 79 #[.pointer (some ⟨r, 0, none⟩), .int .i64 (p : Nat), .int .i64 (m : Nat)] (A) (fun v_ B => ∃ e s2, lastS p m s = (e, s2) ∧ v_ = .int .i64 e ∧ B = C (RDev r s2)) := by
  refine fn_enterW (args := [.pointer (some ⟨r, 0, none⟩), .int .i64 (p : Nat), .int .i64 (m : Nat)]) Tryz.func79 rfl Tryz.ntmps79 (by simp) ?_; refine tc_have (fun _ _ h => wfR_ct hc h) fun hw => ?_
  obtain ⟨rfl, hC⟩ := hc
  have htop := hw.top
  refine sr ?_; refine tla ?_; refine nq ?_; refine tc_seq ?_; refine sr ?_; refine tlm ?_; refine tv (o_quoN (b := 64) rfl rfl (by omega)) ?_; refine tla ?_; refine nq ?_; refine tc_block ?_; refine tc_loop (fun kk ρ BB => ∃ (q : Nat) (s1 : DevS), (p / 64 ≤ q) ∧ (q ≤ (p + m - 1) / 64 + 1) ∧ (flF ((p + m - 1) / 64 + 1 - q) q s1 = lastS p m s) ∧ (s1.ls.length = s.ls.length) ∧ kk = (p + m - 1) / 64 + 1 - q ∧ ρ 7 = .int .i64 (q : Nat) ∧ ρ 0 = .pointer (some ⟨r, 0, none⟩) ∧ ρ 1 = .int .i64 (p : Nat) ∧ ρ 2 = .int .i64 (m : Nat) ∧ BB = R * RDev r s1) (m := (p + m - 1) / 64 + 1 - (p / 64)) ?_ ?_
  · exact ⟨p / 64, s, by omega, by omega, by unfold lastS; congr 1; omega, rfl, rfl, rfl, rfl, rfl, rfl, rfl⟩
  · intro k ρ B hI
    obtain ⟨q, s1, hp0, hp1, hp2, hp3, hkk1, hE7, hE0, hE1, hE2, rfl⟩ := hI
    refine tc_env (d := 7) hE7 ?_; refine tc_env (d := 0) hE0 ?_; refine tc_env (d := 1) hE1 ?_; refine tc_env (d := 2) hE2 ?_
    clear hE7 hE0 hE1 hE2
    refine tc_seq ?_; refine sr ?_; refine tlm ?_; refine tv (by first | exact o_mulI rfl rfl (by omega) | exact o_mul rfl rfl) ?_; refine tl_env (d := 12) (v := .int .i64 ((q * 64 : Nat) : Int)) (rfl) ?_; refine tlm ?_; refine tlm ?_; refine tv (by first | exact o_addI rfl rfl (by omega) | exact o_add rfl rfl) ?_; refine tv (o_lss rfl rfl) ?_; refine nq ?_; refine tc_cond rfl (fun h => ?_) (fun h => ?_)
    · have hq : q * 64 < p + m := by simp at h; omega
      refine tc_skip ?_; refine q_then_n ?_; refine tc_seq ?_; refine tc_block ?_; refine sr ?_; refine tlm ?_; refine tlm ?_; refine tv (by first | exact o_mulI rfl rfl (by omega) | exact o_mul rfl rfl) ?_; refine tl_env (d := 21) (v := .int .i64 ((q * 64 : Nat) : Int)) (rfl) ?_; refine tl_c rfl (o_call bd38 rfl (rFlush_c (s := s1) (p := ((q * 64 : Nat) : Int)))) ?_; rintro _ _ ⟨e22, s22, hs22, rfl, rfl⟩; refine tla ?_; refine nq ?_; refine sr ?_; refine tlm ?_; refine tv (o_nei rfl rfl) ?_; refine nq ?_; refine tc_cond rfl (fun h => ?_) (fun h => ?_)
      · have h : e22 ≠ 0 := by simpa using h
        refine sr ?_; refine tlm ?_; refine tla ?_; refine nq ?_; refine tc_ret ?_; refine q_block_r (q_then_r (q_then_r (q_block_r (q_then_r ?_)))); exact ⟨.int .i64 e22, C (RDev r s22), res1 rfl rfl, fun _ _ h => by rw [hC]; exact h, e22, s22, by rw [← hp2]; exact flF_s2 (k' := (p + m - 1) / 64 - q) hs22 h (by omega), rfl, rfl⟩
      · obtain rfl : e22 = 0 := by simpa using h
        refine tc_skip ?_; refine q_block_n (q_then_n ?_); refine tc_reg ?_; refine tlm ?_; refine tv (by first | exact o_addI rfl rfl (by omega) | exact o_add rfl rfl) ?_; refine tla ?_; refine nq ?_; exact ⟨_, by omega, q + 1, s22, by omega, by omega, by rw [← hp2]; exact (flF_s1 hs22 (by omega)).symm, by have := fl1_len ((q * 64 : Nat) : Int) s1; rw [hs22] at this; exact this.trans hp3, rfl, rfl, rfl, rfl, rfl, rfl⟩
    · have hq : q = (p + m - 1) / 64 + 1 := by simp at h; omega
      subst hq
      rw [Nat.sub_self, flF_zero] at hp2
      refine tc_exit ?_; refine q_then_e (q_then_e (q_block_x (q_then_n ?_))); refine sr ?_; refine tlm ?_; refine tl_c rfl (o_call bd40 rfl (rFence_c (s := s1))) ?_; rintro _ _ ⟨e27, s27, hs27, rfl, rfl⟩; refine tla ?_; refine nq ?_; refine tc_ret ?_; exact ⟨.int .i64 e27, C (RDev r s27), res1 rfl rfl, fun _ _ h => by rw [hC]; exact h, e27, s27, by rw [← hp2]; exact hs27, rfl, rfl⟩
theorem rBytes_c {A R : SP} {C : SP → SP} {r : Nat} {s : DevS} (hc : Ct A (RDev r s) R C := by repeat (first | with_reducible exact ct_here | apply ct_left)) {a : Option Addr} {c m : Nat} {p : Int} {xs : List Nat} (hr : Rs R a (bys xs) := by repeat (first | assumption | with_reducible exact rs_sl | with_reducible exact rs_pt0 | exact rs_none | apply Rs.left)) (hm : xs.length = m := by first | assumption | rfl) (hmc : m ≤ c := by first | assumption | omega) (hb : ∀ x ∈ xs, x < 256 := by assumption) (hml : m ≤ 140737488351232 := by omega) (hp : -9223372036854775808 ≤ p ∧ p ≤ 9223372036854775807 := by omega) (hroom : rdy s.ls.length s.off p m = 0 → Room m s := by assumption) :
    Fn Tryz.prog 81 #[.pointer (some ⟨r, 0, none⟩), .int .i64 p, .slice a m c] (A) (fun v_ B => ∃ e s2, bytesP p xs s = (e, s2) ∧ v_ = .int .i64 e ∧ B = C (RDev r s2)) := by
  refine fn_enterW (args := [.pointer (some ⟨r, 0, none⟩), .int .i64 p, .slice a m c]) Tryz.func81 rfl Tryz.ntmps81 (by simp) ?_
  obtain ⟨rfl, hC⟩ := hc
  refine tc_rdev fun hw lv rls av kvs hmap hkv => ?_
  have hpos := hw.pos
  have htop := hw.top
  subst hm
  refine sr ?_; refine tla ?_; refine nq ?_; refine tc_seq ?_; refine sr ?_; refine tlm ?_; refine tv (o_eqp Tryz.underlying28 rfl rfl) ?_; refine nq ?_; refine tc_cond rfl (fun h => ?_) (fun h => ?_)
  · (exfalso; first | (revert h; simp; done) | (simp at h; done) | (revert h; simp; omega) | (simp at h; omega) | omega)
  · try simp only [lv1, lv2, lv3, lv4, lv5, lv6, Bool.not_true, Bool.not_false] at h
    refine tc_skip ?_; refine q_then_n ?_; refine tc_seq ?_; refine sr ?_; refine tlm ?_; refine tv (o_nilCheck rfl) ?_; refine tv (o_fieldAddr (o := 5) Tryz.underlying114 rfl rfl sz4 rfl) ?_; refine tv (o_load p4 rfl (by repeat (first | exact rdevC_r | apply has_left)) rfl) ?_; refine nq ?_; refine tc_cond rfl (fun h => ?_) (fun h => ?_)
    · try simp only [lv1, lv2, lv3, lv4, lv5, lv6, Bool.not_true, Bool.not_false] at h
      refine sr ?_; refine tla ?_; refine nq ?_; refine tc_ret ?_; refine q_then_r ?_; exact ⟨.int .i64 5, C (RDev r s), res1 rfl rfl, fun _ _ h => by rw [hC]; exact rdev_back hw hmap hkv _ _ h, 5, s, by unfold bytesP; rw [if_pos h], rfl, rfl⟩
    · have ho : s.off = false := by simpa using h
      refine tc_skip ?_; refine q_then_n ?_; refine tc_seq ?_; refine sr ?_; refine tlm ?_; refine tv (o_len Tryz.underlying32 rfl) ?_; refine tv (o_eqi rfl rfl) ?_; refine nq ?_; refine tc_cond rfl (fun h => ?_) (fun h => ?_)
      · have hne : xs = [] := List.eq_nil_of_length_eq_zero (by first | omega | (simp at h; omega) | (simpa using h))
        refine sr ?_; refine tla ?_; refine nq ?_; refine tc_ret ?_; refine q_then_r ?_; exact ⟨.int .i64 0, C (RDev r s), res1 rfl rfl, fun _ _ h => by rw [hC]; exact rdev_back hw hmap hkv _ _ h, 0, s, by unfold bytesP; rw [if_neg (by rw [ho]; decide), if_pos hne], rfl, rfl⟩
      · have hne : xs ≠ [] := fun e => by subst e; simp at h
        have hl1 : 1 ≤ xs.length := List.length_pos_iff.2 hne
        refine tc_pre (rdev_back hw hmap hkv) ?_; refine tc_skip ?_; refine q_then_n ?_; refine tc_seq ?_; refine sr ?_; refine tlm ?_; refine tlm ?_; refine tlm ?_; refine tv (o_len Tryz.underlying32 rfl) ?_; refine tl_c rfl (o_call bd78 rfl (rin9_c (s := s))) ?_; rintro _ _ ⟨rfl, rfl⟩; refine tv (o_not rfl) ?_; refine nq ?_; refine tc_cond rfl (fun h => ?_) (fun h => ?_)
        · have hz : rdy s.ls.length false p xs.length ≠ 0 := by simpa using h
          have hst : sto p xs s = (6, s) := by unfold sto; rw [ho, if_pos hz]; unfold rdy at hz ⊢; simp at hz ⊢; exact hz
          refine sr ?_; refine tla ?_; refine nq ?_; refine tc_ret ?_; refine q_then_r ?_; exact ⟨.int .i64 6, C (RDev r s), res1 rfl rfl, fun _ _ h => by rw [hC]; exact h, 6, s, by unfold bytesP; rw [if_neg (by rw [ho]; decide), if_neg hne, hst, if_pos (by show (6 : Int) ≠ 0; decide)], rfl, rfl⟩
        · try simp only [lv1, lv2, lv3, lv4, lv5, lv6, Bool.not_true, Bool.not_false] at h
          refine tc_skip ?_; refine q_then_n ?_; refine sr ?_; refine tlm ?_; refine tlm ?_; refine tlm ?_; refine tl_c rfl (o_call bd36 rfl (rStore_c (s := s) (p := p) (xs := xs) (hr := hr) (hmc := hmc))) ?_; rintro _ _ ⟨e26, s26, hs26, rfl, rfl⟩; refine tla ?_; refine nq ?_; refine tc_seq ?_; refine sr ?_; refine tlm ?_; refine tv (o_nei rfl rfl) ?_; refine nq ?_; refine tc_cond rfl (fun h => ?_) (fun h => ?_)
          · try simp only [lv1, lv2, lv3, lv4, lv5, lv6, Bool.not_true, Bool.not_false] at h
            refine sr ?_; refine tlm ?_; refine tla ?_; refine nq ?_; refine tc_ret ?_; refine q_then_r ?_; exact ⟨.int .i64 e26, C (RDev r s26), res1 rfl rfl, fun _ _ h => by rw [hC]; exact h, e26, s26, by unfold bytesP; rw [if_neg (by rw [ho]; decide), if_neg hne, hs26, if_pos (by simpa using h)], rfl, rfl⟩
          · obtain rfl : e26 = 0 := by simpa using h
            have hrd := rdy0 (sto_rdy (by rw [hs26]))
            have hsl := sto_len p xs s
            rw [hs26] at hsl
            simp only at hsl
            obtain ⟨q, rfl⟩ := Int.eq_ofNat_of_zero_le hrd.2.1
            refine tc_skip ?_; refine q_then_n ?_; refine sr ?_; refine tlm ?_; refine tlm ?_; refine tlm ?_; refine tv (o_len Tryz.underlying32 rfl) ?_; refine tl_c rfl (o_call bd79 rfl (rlast_c (s := s26) (p := q) (m := xs.length))) ?_; rintro _ _ ⟨e34, s34, hs34, rfl, rfl⟩; refine tla ?_; refine nq ?_; refine tc_ret ?_; exact ⟨.int .i64 e34, C (RDev r s34), res1 rfl rfl, fun _ _ h => by rw [hC]; exact h, e34, s34, by unfold bytesP; rw [if_neg (by rw [ho]; decide), if_neg hne, hs26, if_neg (by simp)]; exact hs34, rfl, rfl⟩
theorem nm_snocr (x : Nat) (l : List Nat) : nm (x :: l) = x + 256 * nm l := rfl
theorem nm_bound {l : List Nat} (h : ∀ x ∈ l, x < 256) (hl : l.length ≤ 8) : nm l < 18446744073709551616 := Nat.lt_of_lt_of_le (nm_lt l h) (by calc 256 ^ l.length ≤ 256 ^ 8 := Nat.pow_le_pow_right (by decide) hl
  _ = 18446744073709551616 := by decide)
theorem NumberR_c {A : SP} {a : Option Addr} {c m : Nat} {xs : List Nat} (hr : Rs A a (bys xs) := by repeat (first | assumption | with_reducible exact rs_sl | with_reducible exact rs_pt0 | exact rs_none | apply Rs.left)) (hm : xs.length = m := by first | assumption | rfl) (hb : ∀ x ∈ xs, x < 256 := by assumption) (h8 : m ≤ 8 := by omega) :
    Fn Tryz.prog 90 #[.slice a m c] (A) (fun v B => v = .int .u64 ((nm xs : Nat) : Int) ∧ A = B) := by
  refine fn_enterW (args := [.slice a m c]) Tryz.func90 rfl Tryz.ntmps90 (by simp) ?_; refine sr ?_; refine tla ?_; refine nq ?_; refine sr ?_; refine tla ?_; refine nq ?_; refine tc_seq ?_; refine sr ?_; refine tlm ?_; refine tv (o_len Tryz.underlying32 rfl) ?_; refine tv (by first | exact o_subI rfl rfl (by omega) | exact o_sub rfl rfl) ?_; refine tla ?_; refine nq ?_; refine tc_block ?_; refine tc_loop (fun kk ρ BB => ∃ (i : Nat), (i ≤ m) ∧ kk = i ∧ ρ 3 = .int .u64 ((nm (xs.drop i) : Nat) : Int) ∧ ρ 4 = .int .i64 ((i : Int) - 1) ∧ ρ 0 = .slice a m c ∧ BB = A) (m := (m)) ?_ ?_
  · exact ⟨m, by omega, rfl, by rw [List.drop_of_length_le (by omega)]; rfl, rfl, rfl, rfl⟩
  · intro k ρ B hI
    obtain ⟨i, hp0, hkk1, hE3, hE4, hE0, hBA⟩ := hI
    obtain rfl := hBA.symm
    refine tc_env (d := 3) hE3 ?_; refine tc_env (d := 4) hE4 ?_; refine tc_env (d := 0) hE0 ?_
    clear hE3 hE4 hE0
    refine tc_seq ?_; refine sr ?_; refine tlm ?_; refine tv (o_geq rfl rfl) ?_; refine nq ?_; refine tc_cond rfl (fun h => ?_) (fun h => ?_)
    · have hi : 1 ≤ i := by simp at h; omega
      have hi2 : i - 1 < xs.length := by omega
      have e1 : xs.drop (i - 1) = xs[i - 1] :: xs.drop i := by rw [List.drop_eq_getElem_cons hi2, show i - 1 + 1 = i by omega]
      have hbb := nm_bound (fun x hx => hb x (List.mem_of_mem_drop hx)) (show (xs.drop (i - 1)).length ≤ 8 by rw [List.length_drop]; omega)
      rw [e1, nm_snocr] at hbb
      have hx := hb _ (List.getElem_mem hi2)
      refine tc_skip ?_; refine q_then_n ?_; refine tc_seq ?_; refine tc_block ?_; refine tc_reg ?_; refine tlm ?_; refine tv (o_mulN (b := 256) rfl rfl rfl rfl (by show _ < 18446744073709551616; omega)) ?_; refine tlm ?_; refine tlm ?_; refine tl_env (d := 15) (v := .int .i64 ((i - 1 : Nat) : Int)) (by show Value.int .i64 _ = Value.int .i64 _; congr 1; omega) ?_; refine tv (o_ixP1 Tryz.underlying32 sz5 rfl rfl (by first | omega | (simp only [bys_length, ints_length, wds_length, bos_length, List.length_append, List.length_take, List.length_drop, List.length_singleton]; omega)) (by repeat (first | exact nn_some | with_reducible exact nn_sl (by decide) | exact nn_rs (by assumption) (fun _ => by first | omega | (simp only [bys_length, ints_length, wds_length, bos_length, List.length_append, List.length_take, List.length_drop, List.length_singleton]; omega)) | apply Nn.left))) ?_; refine tv (o_ldP p5 rfl (by repeat (first | assumption | with_reducible exact rs_sl | with_reducible exact rs_pt0 | exact rs_none | apply Rs.left)) (by first | assumption | exact bys_at (by omega) | exact ints_at (by omega) | exact wds_at (by omega) | exact bos_at (by omega) | rfl)) ?_; refine tv (by first | exact o_conv64 Tryz.underlying5 Tryz.underlying33 rfl | exact o_conv Tryz.underlying5 Tryz.underlying33 rfl) ?_; refine tl_env (d := 18) (v := .int .u64 ((xs[i - 1] : Nat) : Int)) (congrArg (fun z : Nat => Value.int .u64 (z : Int)) (Nat.mod_eq_of_lt (by omega))) ?_
      refine tv (o_addN rfl rfl rfl (by show _ < 18446744073709551616; omega)) ?_; refine tla ?_; refine tl_nil ?_; refine q_block_n (q_then_n ?_); refine tc_reg ?_; refine tlm ?_; refine tv (by first | exact o_subI rfl rfl (by omega) | exact o_sub rfl rfl) ?_; refine tla ?_; refine nq ?_; exact ⟨_, by omega, i - 1, by omega, rfl, by show Value.int .u64 _ = Value.int .u64 _; rw [e1, nm_snocr]; congr 1; omega, by show Value.int .i64 _ = _; congr 1; omega, rfl, rfl⟩
    · try simp only [lv1, lv2, lv3, lv4, lv5, lv6, Bool.not_true, Bool.not_false] at h
      refine tc_exit ?_; refine q_then_e (q_then_e (q_block_x (q_then_n ?_))); refine sr ?_; refine tlm ?_; refine tla ?_; refine nq ?_; refine tc_ret ?_
      obtain rfl : i = 0 := by simp at h; omega
      exact ⟨.int .u64 ((nm (xs.drop 0) : Nat) : Int), A, res1 rfl rfl, Dr.sat (by repeat (first | with_reducible exact dr_refl | apply dr_keep | apply dr_drop)), by rw [List.drop_zero], rfl⟩
theorem rNumber_c {A R : SP} {C : SP → SP} {r : Nat} {s : DevS} (hc : Ct A (RDev r s) R C := by repeat (first | with_reducible exact ct_here | apply ct_left)) {p : Int} {n : Nat} (hp : -9223372036854775808 ≤ p ∧ p ≤ 9223372036854775807 := by omega) (hn : n ≤ 8 := by omega) :
    Fn Tryz.prog 31 #[.pointer (some ⟨r, 0, none⟩), .int .i64 p, .int .i64 (n : Nat)] (A) (fun v B => v = .tuple #[.int .u64 (((loadP p n s).1 : Nat) : Int), .int .i64 (loadP p n s).2] ∧ B = C (RDev r s)) := by
  refine fn_enterW (args := [.pointer (some ⟨r, 0, none⟩), .int .i64 p, .int .i64 (n : Nat)]) Tryz.func31 rfl Tryz.ntmps31 (by simp) ?_
  obtain ⟨rfl, hC⟩ := hc
  refine tc_rdev fun hw lv rls av kvs hmap hkv => ?_
  have hpos := hw.pos
  have htop := hw.top
  
  refine sr ?_; refine tla ?_; refine tla ?_; refine nq ?_; refine tc_seq ?_; refine sr ?_; refine tlm ?_; refine tv (o_eqp Tryz.underlying28 rfl rfl) ?_; refine nq ?_; refine tc_cond rfl (fun h => ?_) (fun h => ?_)
  · (exfalso; first | (revert h; simp; done) | (simp at h; done) | (revert h; simp; omega) | (simp at h; omega) | omega)
  · try simp only [lv1, lv2, lv3, lv4, lv5, lv6, Bool.not_true, Bool.not_false] at h
    refine tc_skip ?_; refine q_then_n ?_; refine tc_seq ?_; refine sr ?_; refine tlm ?_; refine tv (o_nilCheck rfl) ?_; refine tv (o_fieldAddr (o := 5) Tryz.underlying114 rfl rfl sz4 rfl) ?_; refine tv (o_load p4 rfl (by repeat (first | exact rdevC_r | apply has_left)) rfl) ?_; refine nq ?_; refine tc_cond rfl (fun h => ?_) (fun h => ?_)
    · try simp only [lv1, lv2, lv3, lv4, lv5, lv6, Bool.not_true, Bool.not_false] at h
      refine sr ?_; refine tla ?_; refine tla ?_; refine nq ?_; refine tc_ret ?_; refine q_then_r ?_
      have e : loadP p n s = (0, 5) := by unfold loadP rdy; simp only [h, if_true]; rfl
      rw [e]
      exact ⟨.tuple #[.int .u64 0, .int .i64 5], C (RDev r s), res2 rfl rfl rfl, fun _ _ h => by rw [hC]; exact rdev_back hw hmap hkv _ _ h, rfl, rfl⟩
    · have ho : s.off = false := by simpa using h
      refine tc_pre (rdev_back hw hmap hkv) ?_; refine tc_skip ?_; refine q_then_n ?_; refine tc_seq ?_; refine sr ?_; refine tlm ?_; refine tlm ?_; refine tlm ?_; refine tl_c rfl (o_call bd78 rfl (rin9_c (s := s))) ?_; rintro _ _ ⟨rfl, rfl⟩; refine tv (o_not rfl) ?_; refine nq ?_; refine tc_cond rfl (fun h => ?_) (fun h => ?_)
      · try simp only [lv1, lv2, lv3, lv4, lv5, lv6, Bool.not_true, Bool.not_false] at h
        refine sr ?_; refine tla ?_; refine tla ?_; refine nq ?_; refine tc_ret ?_; refine q_then_r ?_
        have hz : rdy s.ls.length false p n ≠ 0 := by simpa using h
        have e : loadP p n s = (0, 6) := by unfold loadP; rw [ho, if_pos hz]; unfold rdy at hz ⊢; simp at hz ⊢; exact hz
        rw [e]
        exact ⟨.tuple #[.int .u64 0, .int .i64 6], C (RDev r s), res2 rfl rfl rfl, fun _ _ h => by rw [hC]; exact h, rfl, rfl⟩
      · have hz : rdy s.ls.length false p n = 0 := by simpa using h
        have hr0 := rdy0 hz
        obtain ⟨q, rfl⟩ := Int.eq_ofNat_of_zero_le hr0.2.1
        have hil2 := imgS_len hw
        have hxl : (((imgS s).drop q).take n).length = n := by rw [List.length_take, List.length_drop]; omega
        have hxb : ∀ x ∈ ((imgS s).drop q).take n, x < 256 := img_sub
        refine tc_skip ?_; refine q_then_n ?_; refine sr ?_; refine tlm ?_; refine tlm ?_; refine tlm ?_; refine tl_c rfl (o_call bd89 rfl (rLoad_c (s := s) (p := q) (m := n))) ?_; rintro _ _ ⟨a25, c25, rfl, hc25, rfl⟩; refine tlm ?_; refine tv (o_extract rfl rfl) ?_; refine tv (o_extract rfl rfl) ?_; refine tla ?_; refine tla ?_; refine nq ?_; refine sr ?_; refine tlm ?_; refine tl_c rfl (o_call bd90 rfl (NumberR_c (xs := ((imgS s).drop q).take n))) ?_; rintro _ _ ⟨rfl, rfl⟩; refine tlm ?_; refine tla ?_; refine tla ?_; refine nq ?_; refine tc_ret ?_
        have e : loadP (q : Int) n s = (nm (((imgS s).drop q).take n), 0) := by unfold loadP; rw [ho, if_neg (by omega), Int.toNat_natCast]
        rw [e]
        exact ⟨.tuple #[.int .u64 ((nm (((imgS s).drop q).take n) : Nat) : Int), .int .i64 0], C (RDev r s), res2 rfl rfl rfl, fun _ _ h => by rw [hC]; exact Dr.sat (by repeat (first | with_reducible exact dr_refl | apply dr_keep | apply dr_drop)) _ _ h, rfl, rfl⟩
theorem rWord_c {A R : SP} {C : SP → SP} {r : Nat} {s : DevS} (hc : Ct A (RDev r s) R C := by repeat (first | with_reducible exact ct_here | apply ct_left)) {p : Int} (hp : -9223372036854775808 ≤ p ∧ p ≤ 9223372036854775807 := by omega) :
    Fn Tryz.prog 29 #[.pointer (some ⟨r, 0, none⟩), .int .i64 p] (A) (fun v B => v = .tuple #[.int .u64 (((wordP p s).1 : Nat) : Int), .int .i64 (wordP p s).2] ∧ B = C (RDev r s)) := by
  refine fn_enterW (args := [.pointer (some ⟨r, 0, none⟩), .int .i64 p]) Tryz.func29 rfl Tryz.ntmps29 (by simp) ?_
  obtain ⟨rfl, hC⟩ := hc
  refine tc_rdev fun hw lv rls av kvs hmap hkv => ?_
  have hpos := hw.pos
  have htop := hw.top
  
  refine sr ?_; refine tla ?_; refine tla ?_; refine nq ?_; refine tc_seq ?_; refine sr ?_; refine tlm ?_; refine tv (o_nep Tryz.underlying28 rfl rfl) ?_; refine tlm ?_; refine tl_bool (d := 8) rfl (fun h => ?_) (fun h => ?_)
  · try simp only [lv1, lv2, lv3, lv4, lv5, lv6, Bool.not_true, Bool.not_false] at h
    refine tlm ?_; refine tv (o_nilCheck rfl) ?_; refine tv (o_fieldAddr (o := 5) Tryz.underlying114 rfl rfl sz4 rfl) ?_; refine tv (o_load p4 rfl (by repeat (first | exact rdevC_r | apply has_left)) rfl) ?_; refine tv (o_not rfl) ?_; refine tv (o_pick_t rfl (by conv => lhs; whnf)) ?_; refine tlm ?_; refine tl_bool (d := 15) rfl (fun h => ?_) (fun h => ?_)
    · have ho : s.off = false := by simpa using h
      refine tlm ?_; refine tv (o_rem (b := 8) rfl rfl (by decide)) ?_; refine tv (o_nei rfl rfl) ?_; refine tv (o_pick_t rfl (by conv => lhs; whnf)) ?_; refine nq ?_; refine tc_cond rfl (fun h => ?_) (fun h => ?_)
      · have hne : p % 8 ≠ 0 := fun e => by simp at h; exact h (tmod8.2 e)
        have e : wordP p s = (0, 6) := by unfold wordP; rw [if_neg (by rw [ho]; decide), if_pos hne]
        refine sr ?_; refine tla ?_; refine tla ?_; refine nq ?_; refine tc_ret ?_; refine q_then_r ?_
        first
        | (rw [e]; exact ⟨.tuple #[.int .u64 (((loadP p 8 s).1 : Nat) : Int), .int .i64 (loadP p 8 s).2], C (RDev r s), res2 rfl rfl rfl, fun _ _ h => by first | exact h | (rw [hC]; exact h), rfl, rfl⟩)
        | (rw [e]; exact ⟨.tuple #[.int .u64 0, .int .i64 6], C (RDev r s), res2 rfl rfl rfl, fun _ _ h => by rw [hC]; exact rdev_back hw hmap hkv _ _ h, rfl, rfl⟩)
      · have hmod : p % 8 = 0 := tmod8.1 (by simpa using h)
        have e : wordP p s = loadP p 8 s := by unfold wordP; rw [if_neg (by rw [ho]; decide), if_neg (by omega)]
        refine tc_skip ?_; refine q_then_n ?_; refine tc_seq ?_; refine tc_pre (rdev_back hw hmap hkv) ?_; refine tc_reg ?_; refine tlm ?_; refine tlm ?_; refine tl_c rfl (o_call bd31 rfl (rNumber_c (s := s) (p := p) (n := 8))) ?_; rintro _ _ ⟨rfl, rfl⟩; refine tv (o_extract rfl rfl) ?_; refine tv (o_extract rfl rfl) ?_; refine tla ?_; refine tla ?_; refine nq ?_; refine tc_ret ?_
        first
        | (rw [e]; exact ⟨.tuple #[.int .u64 (((loadP p 8 s).1 : Nat) : Int), .int .i64 (loadP p 8 s).2], C (RDev r s), res2 rfl rfl rfl, fun _ _ h => by first | exact h | (rw [hC]; exact h), rfl, rfl⟩)
        | (rw [e]; exact ⟨.tuple #[.int .u64 0, .int .i64 6], C (RDev r s), res2 rfl rfl rfl, fun _ _ h => by rw [hC]; exact rdev_back hw hmap hkv _ _ h, rfl, rfl⟩)
    · have ho : s.off = true := by simpa using h
      have e : wordP p s = loadP p 8 s := by unfold wordP loadP rdy; simp only [ho, if_true]; rfl
      refine tk ?_; refine tk ?_; refine tk ?_; refine tv (o_pick_f rfl (by conv => lhs; whnf)) ?_; refine nq ?_; refine tc_cond_f rfl ?_; refine tc_skip ?_; refine q_then_n ?_; refine tc_seq ?_; refine tc_pre (rdev_back hw hmap hkv) ?_; refine tc_reg ?_; refine tlm ?_; refine tlm ?_; refine tl_c rfl (o_call bd31 rfl (rNumber_c (s := s) (p := p) (n := 8))) ?_; rintro _ _ ⟨rfl, rfl⟩; refine tv (o_extract rfl rfl) ?_; refine tv (o_extract rfl rfl) ?_; refine tla ?_; refine tla ?_; refine nq ?_; refine tc_ret ?_
      first
      | (rw [e]; exact ⟨.tuple #[.int .u64 (((loadP p 8 s).1 : Nat) : Int), .int .i64 (loadP p 8 s).2], C (RDev r s), res2 rfl rfl rfl, fun _ _ h => by first | exact h | (rw [hC]; exact h), rfl, rfl⟩)
      | (rw [e]; exact ⟨.tuple #[.int .u64 0, .int .i64 6], C (RDev r s), res2 rfl rfl rfl, fun _ _ h => by rw [hC]; exact rdev_back hw hmap hkv _ _ h, rfl, rfl⟩)
  · (exfalso; first | (revert h; simp; done) | (simp at h; done) | (revert h; simp; omega) | (simp at h; omega) | omega)
end Go.Vl

set_option linter.unusedVariables false
set_option linter.unusedSimpArgs false
namespace Go.Vl
open Go Go.Proofs
/-- The device's own cells, read within any context. -/
theorem rd_gone {A R : SP} {C : SP → SP} {r : Nat} {s : DevS} (hc : Ct A (RDev r s) R C) {P : Program} {n : Nat} {ρ : Env} {dst : Option Tmp} {t ty : TypeId} {pos : String} {after : Array Edge} {gd : Option (Nat × Bool)} {x : Operand} (hp : plainE P t = true) (hx : ev n ρ x = .pointer (some ⟨r, 0 + 5, none⟩)) :
    OpV P n ρ A ⟨dst, .load t x, ty, pos, after, gd⟩ (.bool s.off) := fun g w hs => by
  obtain ⟨rfl, _⟩ := hc
  obtain ⟨hw, lv, rls, av, kvs, h1, h2, hs'⟩ := rdev_iff.1 hs
  exact o_load (A := R * RDevC r lv rls av kvs s) hp hx rdevC_r rfl g w hs'
theorem rd_bytes {A R : SP} {C : SP → SP} {r : Nat} {s : DevS} (hc : Ct A (RDev r s) R C) {P : Program} {n : Nat} {ρ : Env} {dst : Option Tmp} {t ty : TypeId} {pos : String} {after : Array Edge} {gd : Option (Nat × Bool)} {x : Operand} (hp : plainE P t = true) (hx : ev n ρ x = .pointer (some ⟨r, 0 + 0, none⟩)) :
    OpV P n ρ A ⟨dst, .load t x, ty, pos, after, gd⟩ (.int .i64 ((s.ls.length * 64 : Nat) : Int)) := fun g w hs => by
  obtain ⟨rfl, _⟩ := hc
  obtain ⟨hw, lv, rls, av, kvs, h1, h2, hs'⟩ := rdev_iff.1 hs
  exact o_load (A := R * RDevC r lv rls av kvs s) hp hx rdevC_r rfl g w hs'
attribute [local irreducible] crk crL crc Sl pt ro mbs sbB planT RDev imgS
theorem rRead_off {A R : SP} {C : SP → SP} {r : Nat} {s : DevS} (hc : Ct A (RDev r s) R C := by repeat (first | with_reducible exact ct_here | apply ct_left)) (hoff : s.off = true) :
    Fn Tryz.prog 69 #[.pointer (some ⟨r, 0, none⟩)] (A) (fun v B => v = .tuple #[.agg (ints [0, 0, 0, 0, 0]).toArray, .int .i64 5] ∧ A = B) := by
  refine fn_enterW (args := [.pointer (some ⟨r, 0, none⟩)]) Tryz.func69 rfl Tryz.ntmps69 (by simp) ?_; refine tc_have (fun _ _ h => wfR_ct hc h) fun hw => ?_
  obtain ⟨rfl, hC⟩ := hc
  have htop := hw.top
  refine sr ?_; refine tl_x rfl (o_alloc z42 rfl) ?_; rintro _ _ ⟨b2, rfl, rfl⟩; refine tla ?_; refine nq ?_; refine tc_seq ?_; refine sr ?_; refine tlm ?_; refine tv (o_nilCheck rfl) ?_; refine tv (o_fieldAddr (o := 5) Tryz.underlying114 rfl rfl sz4 rfl) ?_; refine tv (rd_gone (s := s) (by repeat (first | with_reducible exact ct_here | apply ct_left)) p4 rfl) ?_; refine nq ?_; refine tc_cond rfl (fun h => ?_) (fun h => ?_)
  · try simp only [lv1, lv2, lv3, lv4, lv5, lv6, Bool.not_true, Bool.not_false] at h
    refine sr ?_; refine tv (o_bS (l := ints [0, 0, 0, 0, 0]) pv_nil Tryz.underlying42 z42 (pl42 Tryz.underlying42) rfl) ?_; refine tl_u rfl (o_stUN (l' := ints [0, 0, 0, 0, 0]) rfl (by repeat (first | with_reducible exact upd_here | with_reducible exact upd_pt | apply upd_left)) sz42 rfl rfl rfl (by show 5 ≤ 5; decide) rfl) ?_; refine tla ?_; refine nq ?_; refine tc_ret ?_; refine q_then_r ?_; exact ⟨.tuple #[.agg (ints [0, 0, 0, 0, 0]).toArray, .int .i64 5], R * RDev r s, resA2 rfl (rv_cell a42 sz42 rfl (by repeat (first | with_reducible exact has_here | with_reducible exact has_pt | apply has_left)) (by show 5 ≤ 5; decide) rfl) (rv_tmp rfl), Dr.sat (by repeat (first | with_reducible exact dr_refl | apply dr_keep | apply dr_drop)), rfl, rfl⟩
  · exfalso; rw [hoff] at h; cases h
theorem rRead_no {A R : SP} {C : SP → SP} {r : Nat} {s : DevS} (hc : Ct A (RDev r s) R C := by repeat (first | with_reducible exact ct_here | apply ct_left)) {n : Nat} (hoff : s.off = false) (hlen : s.ls.length * 64 = n) (hn : ¬ (36992 ≤ (n : Int) ∧ (n : Int) ≤ 4194304 ∧ (n : Int) % 64 = 0)) :
    Fn Tryz.prog 69 #[.pointer (some ⟨r, 0, none⟩)] (A) (fun v B => v = .tuple #[.agg (ints [0, 0, 0, 0, 0]).toArray, .int .i64 100] ∧ A = B) := by
  refine fn_enterW (args := [.pointer (some ⟨r, 0, none⟩)]) Tryz.func69 rfl Tryz.ntmps69 (by simp) ?_; refine tc_have (fun _ _ h => wfR_ct hc h) fun hw => ?_
  obtain ⟨rfl, hC⟩ := hc
  have htop := hw.top
  refine sr ?_; refine tl_x rfl (o_alloc z42 rfl) ?_; rintro _ _ ⟨b2, rfl, rfl⟩; refine tla ?_; refine nq ?_; refine tc_seq ?_; refine sr ?_; refine tlm ?_; refine tv (o_nilCheck rfl) ?_; refine tv (o_fieldAddr (o := 5) Tryz.underlying114 rfl rfl sz4 rfl) ?_; refine tv (rd_gone (s := s) (by repeat (first | with_reducible exact ct_here | apply ct_left)) p4 rfl) ?_; refine nq ?_; refine tc_cond rfl (fun h => ?_) (fun h => ?_)
  · exfalso; rw [hoff] at h; cases h
  · try simp only [lv1, lv2, lv3, lv4, lv5, lv6, Bool.not_true, Bool.not_false] at h
    refine tc_skip ?_; refine q_then_n ?_; refine sr ?_; refine tlm ?_; refine tv (o_nilCheck rfl) ?_; refine tv (o_fieldAddr (o := 0) Tryz.underlying114 rfl rfl sz3 rfl) ?_; refine tv (rd_bytes (s := s) (by repeat (first | with_reducible exact ct_here | apply ct_left)) p3 rfl) ?_; refine tl_env (d := 18) (v := .int .i64 (n : Int)) (congrArg (Value.int .i64) (by omega)) ?_; refine tl_c rfl (o_call bd62 rfl (PlanR_q (planT_f hn))) ?_; rintro _ _ ⟨rfl, rfl⟩; refine tlm ?_; refine tv (o_extract rfl rfl) ?_; refine tv (o_extract rfl rfl) ?_; refine tl_x rfl (o_alloc z42 rfl) ?_; rintro _ _ ⟨b4, rfl, rfl⟩; refine tl_u rfl (o_stUN (l' := ints [0, 0, 0, 0, 0]) rfl (by repeat (first | with_reducible exact upd_here | with_reducible exact upd_pt | apply upd_left)) sz42 rfl rfl rfl (by show 5 ≤ 5; decide) rfl) ?_; refine tla ?_; refine nq ?_; refine tc_seq ?_; refine sr ?_; refine tlm ?_; refine tv (o_nei rfl rfl) ?_; refine nq ?_; refine tc_cond rfl (fun h => ?_) (fun h => ?_)
    · try simp only [lv1, lv2, lv3, lv4, lv5, lv6, Bool.not_true, Bool.not_false] at h
      refine sr ?_; refine tv (o_bS (l := ints [0, 0, 0, 0, 0]) pv_nil Tryz.underlying42 z42 (pl42 Tryz.underlying42) rfl) ?_; refine tl_u rfl (o_stUN (l' := ints [0, 0, 0, 0, 0]) rfl (by repeat (first | with_reducible exact upd_here | with_reducible exact upd_pt | apply upd_left)) sz42 rfl rfl rfl (by show 5 ≤ 5; decide) rfl) ?_; refine tla ?_; refine nq ?_; refine tc_ret ?_; refine q_then_r ?_; exact ⟨.tuple #[.agg (ints [0, 0, 0, 0, 0]).toArray, .int .i64 100], R * RDev r s, resA2 rfl (rv_cell a42 sz42 rfl (by repeat (first | with_reducible exact has_here | with_reducible exact has_pt | apply has_left)) (by show 5 ≤ 5; decide) rfl) (rv_tmp rfl), Dr.sat (by repeat (first | with_reducible exact dr_refl | apply dr_keep | apply dr_drop)), rfl, rfl⟩
    · exfalso; simp at h
set_option maxRecDepth 20000 in
set_option maxHeartbeats 1000000 in
theorem rRead_ok {A R : SP} {C : SP → SP} {r : Nat} {s : DevS} (hc : Ct A (RDev r s) R C := by repeat (first | with_reducible exact ct_here | apply ct_left)) {n : Nat} (hoff : s.off = false) (hlen : s.ls.length * 64 = n) (hn : 36992 ≤ n ∧ n ≤ 4194304 ∧ n % 64 = 0) :
    Fn Tryz.prog 69 #[.pointer (some ⟨r, 0, none⟩)] (A) (fun v B => v = .tuple #[.agg (ints (rdT n (imgS s)).1).toArray, .int .i64 (rdT n (imgS s)).2] ∧ B = C (RDev r s)) := by
  refine fn_enterW (args := [.pointer (some ⟨r, 0, none⟩)]) Tryz.func69 rfl Tryz.ntmps69 (by simp) ?_; refine tc_have (fun _ _ h => wfR_ct hc h) fun hw => ?_
  obtain ⟨rfl, hC⟩ := hc
  have htop := hw.top
  have hil := imgS_len hw
  have hxl : (((imgS s).drop 0).take 64).length = 64 := by rw [List.length_take, List.length_drop]; omega
  have hbl : (sbB [n, 128, 32768, 32896, (n - 32896) / 256, 0]).length = 64 := sbB_len rfl
  refine sr ?_; refine tl_x rfl (o_alloc z42 rfl) ?_; rintro _ _ ⟨b2, rfl, rfl⟩; refine tla ?_; refine nq ?_; refine tc_seq ?_; refine sr ?_; refine tlm ?_; refine tv (o_nilCheck rfl) ?_; refine tv (o_fieldAddr (o := 5) Tryz.underlying114 rfl rfl sz4 rfl) ?_; refine tv (rd_gone (s := s) (by repeat (first | with_reducible exact ct_here | apply ct_left)) p4 rfl) ?_; refine nq ?_; refine tc_cond rfl (fun h => ?_) (fun h => ?_)
  · exfalso; rw [hoff] at h; cases h
  · try simp only [lv1, lv2, lv3, lv4, lv5, lv6, Bool.not_true, Bool.not_false] at h
    refine tc_skip ?_; refine q_then_n ?_; refine sr ?_; refine tlm ?_; refine tv (o_nilCheck rfl) ?_; refine tv (o_fieldAddr (o := 0) Tryz.underlying114 rfl rfl sz3 rfl) ?_; refine tv (rd_bytes (s := s) (by repeat (first | with_reducible exact ct_here | apply ct_left)) p3 rfl) ?_; refine tl_env (d := 18) (v := .int .i64 (n : Int)) (congrArg (Value.int .i64) (by omega)) ?_; refine tl_c rfl (o_call bd62 rfl (PlanR_ok hn)) ?_; rintro _ _ ⟨rfl, rfl⟩; refine tlm ?_; refine tv (o_extract rfl rfl) ?_; refine tv (o_extract rfl rfl) ?_; refine tl_x rfl (o_alloc z42 rfl) ?_; rintro _ _ ⟨b4, rfl, rfl⟩; refine tl_u rfl (o_stUN (l' := ints [(n : Int), ((128 : Nat) : Int), ((32768 : Nat) : Int), ((32896 : Nat) : Int), (((n - 32896) / 256 : Nat) : Int)]) rfl (by repeat (first | with_reducible exact upd_here | with_reducible exact upd_pt | apply upd_left)) sz42 rfl rfl rfl (by show 5 ≤ 5; decide) rfl) ?_; refine tla ?_; refine nq ?_; refine tc_seq ?_; refine sr ?_; refine tlm ?_; refine tv (o_nei rfl rfl) ?_; refine nq ?_; refine tc_cond rfl (fun h => ?_) (fun h => ?_)
    · exfalso; simp at h
    · try simp only [lv1, lv2, lv3, lv4, lv5, lv6, Bool.not_true, Bool.not_false] at h
      refine tc_skip ?_; refine q_then_n ?_; refine sr ?_; refine tv (o_loadN (vs := ints [(n : Int), ((128 : Nat) : Int), ((32768 : Nat) : Int), ((32896 : Nat) : Int), (((n - 32896) / 256 : Nat) : Int)]) a42 sz42 rfl (by repeat (first | with_reducible exact has_here | with_reducible exact has_pt | apply has_left)) (by show 5 ≤ 5; decide) rfl) ?_; refine tl_c rfl (o_call bd64 rfl (LineR_ok hn)) ?_; rintro _ _ ⟨a27, c27, rfl, hc27, rfl⟩; refine tlm ?_; refine tv (o_extract rfl rfl) ?_; refine tv (o_extract rfl rfl) ?_; refine tla ?_; refine tla ?_; refine nq ?_; refine sr ?_; refine tlm ?_; refine tl_c rfl (o_call bd89 rfl (rLoad_c (s := s) (p := 0) (m := 64))) ?_; rintro _ _ ⟨a32, c32, rfl, hc32, rfl⟩; refine tlm ?_; refine tv (o_extract rfl rfl) ?_; refine tv (o_extract rfl rfl) ?_; refine tla ?_; refine tla ?_; refine nq ?_; refine tc_seq ?_; refine sr ?_; refine tlm ?_; refine tv (o_nei rfl rfl) ?_; refine tlm ?_; refine tl_bool (d := 37) rfl (fun h => ?_) (fun h => ?_)
      · exfalso; simp at h
      · try simp only [lv1, lv2, lv3, lv4, lv5, lv6, Bool.not_true, Bool.not_false] at h
        refine tlm ?_; refine tlm ?_; refine tl_c rfl (o_call bd53 rfl (EqBytes_c (xs := ((imgS s).drop 0).take 64) (ys := sbB [n, 128, 32768, 32896, (n - 32896) / 256, 0]) (hx := hxl) (hy := hbl))) ?_; rintro _ _ ⟨rfl, rfl⟩; refine tv (o_not rfl) ?_; refine tv (o_pick_f rfl (by conv => lhs; whnf)) ?_; refine nq ?_; refine tc_cond rfl (fun h => ?_) (fun h => ?_)
        · have hr : rdT n (imgS s) = ([0, 0, 0, 0, 0], 100) := by unfold rdT; rw [if_neg (by simpa using h)]
          refine sr ?_; refine tv (o_bS (l := ints [0, 0, 0, 0, 0]) pv_nil Tryz.underlying42 z42 (pl42 Tryz.underlying42) rfl) ?_; refine tl_u rfl (o_stUN (l' := ints [0, 0, 0, 0, 0]) rfl (by repeat (first | with_reducible exact upd_here | with_reducible exact upd_pt | apply upd_left)) sz42 rfl rfl rfl (by show 5 ≤ 5; decide) rfl) ?_; refine tla ?_; refine nq ?_; refine tc_ret ?_; refine q_then_r ?_
          rw [hr]
          first
          | (exact ⟨.tuple #[.agg (ints [0, 0, 0, 0, 0]).toArray, .int .i64 100], C (RDev r s), resA2 rfl (rv_cell a42 sz42 rfl (by repeat (first | with_reducible exact has_here | with_reducible exact has_pt | apply has_left)) (by show 5 ≤ 5; decide) rfl) (rv_tmp rfl), fun _ _ h => by rw [hC]; exact (Dr.sat (by repeat (first | with_reducible exact dr_refl | apply dr_keep | apply dr_drop))) _ _ h, rfl, rfl⟩)
          | (exact ⟨.tuple #[.agg (ints [(n : Int), ((128 : Nat) : Int), ((32768 : Nat) : Int), ((32896 : Nat) : Int), (((n - 32896) / 256 : Nat) : Int)]).toArray, .int .i64 0], C (RDev r s), resA2 rfl (rv_cell a42 sz42 rfl (by repeat (first | with_reducible exact has_here | with_reducible exact has_pt | apply has_left)) (by show 5 ≤ 5; decide) rfl) (rv_tmp rfl), fun _ _ h => by rw [hC]; exact (Dr.sat (by repeat (first | with_reducible exact dr_refl | apply dr_keep | apply dr_drop))) _ _ h, rfl, rfl⟩)
        · have hr : rdT n (imgS s) = ([(n : Int), ((128 : Nat) : Int), ((32768 : Nat) : Int), ((32896 : Nat) : Int), (((n - 32896) / 256 : Nat) : Int)], 0) := by unfold rdT; rw [if_pos (by simpa using h)]
          refine tc_skip ?_; refine q_then_n ?_; refine sr ?_; refine tv (o_loadN (vs := ints [(n : Int), ((128 : Nat) : Int), ((32768 : Nat) : Int), ((32896 : Nat) : Int), (((n - 32896) / 256 : Nat) : Int)]) a42 sz42 rfl (by repeat (first | with_reducible exact has_here | with_reducible exact has_pt | apply has_left)) (by show 5 ≤ 5; decide) rfl) ?_; refine tl_u rfl (o_stUN (l' := ints [(n : Int), ((128 : Nat) : Int), ((32768 : Nat) : Int), ((32896 : Nat) : Int), (((n - 32896) / 256 : Nat) : Int)]) rfl (by repeat (first | with_reducible exact upd_here | with_reducible exact upd_pt | apply upd_left)) sz42 rfl rfl rfl (by show 5 ≤ 5; decide) rfl) ?_; refine tla ?_; refine nq ?_; refine tc_ret ?_
          rw [hr]
          first
          | (exact ⟨.tuple #[.agg (ints [0, 0, 0, 0, 0]).toArray, .int .i64 100], C (RDev r s), resA2 rfl (rv_cell a42 sz42 rfl (by repeat (first | with_reducible exact has_here | with_reducible exact has_pt | apply has_left)) (by show 5 ≤ 5; decide) rfl) (rv_tmp rfl), fun _ _ h => by rw [hC]; exact (Dr.sat (by repeat (first | with_reducible exact dr_refl | apply dr_keep | apply dr_drop))) _ _ h, rfl, rfl⟩)
          | (exact ⟨.tuple #[.agg (ints [(n : Int), ((128 : Nat) : Int), ((32768 : Nat) : Int), ((32896 : Nat) : Int), (((n - 32896) / 256 : Nat) : Int)]).toArray, .int .i64 0], C (RDev r s), resA2 rfl (rv_cell a42 sz42 rfl (by repeat (first | with_reducible exact has_here | with_reducible exact has_pt | apply has_left)) (by show 5 ≤ 5; decide) rfl) (rv_tmp rfl), fun _ _ h => by rw [hC]; exact (Dr.sat (by repeat (first | with_reducible exact dr_refl | apply dr_keep | apply dr_drop))) _ _ h, rfl, rfl⟩)
theorem rRead_c {A R : SP} {C : SP → SP} {r : Nat} {s : DevS} (hc : Ct A (RDev r s) R C := by repeat (first | with_reducible exact ct_here | apply ct_left)) : Fn Tryz.prog 69 #[.pointer (some ⟨r, 0, none⟩)] A (fun v B => v = .tuple #[.agg (ints (rdA s).1).toArray, .int .i64 (rdA s).2] ∧ B = C (RDev r s)) := by
  intro g w hs
  have hw := wfR_ct hc hs
  have htop := hw.top
  have hCA : A = C (RDev r s) := by obtain ⟨rfl, hC⟩ := hc; exact (hC _).symm
  unfold rdA
  by_cases h1 : s.off = true
  · rw [if_pos h1]; exact ((rRead_off hc h1).mono fun _ _ h => ⟨h.1, by rw [← h.2]; exact hCA⟩) g w hs
  · rw [if_neg h1]
    by_cases h2 : 578 ≤ s.ls.length
    · rw [if_pos h2]; exact rRead_ok hc (by simpa using h1) rfl (by omega) g w hs
    · rw [if_neg h2]; exact ((rRead_no hc (by simpa using h1) rfl (by omega)).mono fun _ _ h => ⟨h.1, by rw [← h.2]; exact hCA⟩) g w hs
theorem rRead_5 {A R : SP} {C : SP → SP} {r : Nat} {s : DevS} {l : List Int} {e : Int} (hc : Ct A (RDev r s) R C) (hr : rdA s = (l, e)) : Fn Tryz.prog 69 #[.pointer (some ⟨r, 0, none⟩)] A (fun v B => v = .tuple #[.agg (ints l).toArray, .int .i64 e] ∧ B = C (RDev r s)) := by
  have := rRead_c hc; rw [hr] at this; exact this
theorem rRoot_c {A R : SP} {C : SP → SP} {r : Nat} {s : DevS} (hc : Ct A (RDev r s) R C := by repeat (first | with_reducible exact ct_here | apply ct_left)) :
    Fn Tryz.prog 70 #[.pointer (some ⟨r, 0, none⟩)] (A) (fun v B => v = .tuple #[.int .u64 (((rootA s).1 : Nat) : Int), .int .i64 (rootA s).2] ∧ B = C (RDev r s)) := by
  refine fn_enterW (args := [.pointer (some ⟨r, 0, none⟩)]) Tryz.func70 rfl Tryz.ntmps70 (by simp) ?_
  obtain ⟨q0, q1, q2, q3, q4, hq⟩ := five_i (rdA_len s)
  obtain ⟨e0, he0⟩ : ∃ e0, e0 = (rdA s).2 := ⟨_, rfl⟩
  have hrd : rdA s = ([q0, q1, q2, q3, q4], e0) := by rw [← hq, he0]
  obtain ⟨rfl, hC⟩ := hc
  refine sr ?_; refine tla ?_; refine tla ?_; refine nq ?_; refine sr ?_; refine tlm ?_; refine tl_c rfl (o_call bd69 rfl (rRead_5 (s := s) (by repeat (first | with_reducible exact ct_here | apply ct_left)) hrd)) ?_; rintro _ _ ⟨rfl, rfl⟩; refine tlm ?_; refine tv (o_extract rfl rfl) ?_; refine tv (o_extract rfl rfl) ?_; refine tl_x rfl (o_alloc z42 rfl) ?_; rintro _ _ ⟨b4, rfl, rfl⟩; refine tl_u rfl (o_stUN (l' := ints [q0, q1, q2, q3, q4]) rfl (by repeat (first | with_reducible exact upd_here | with_reducible exact upd_pt | apply upd_left)) sz42 rfl rfl rfl (by show 5 ≤ 5; decide) rfl) ?_; refine tla ?_; refine nq ?_; refine tc_seq ?_; refine sr ?_; refine tlm ?_; refine tv (o_nei rfl rfl) ?_; refine nq ?_; refine tc_cond rfl (fun h => ?_) (fun h => ?_)
  · try simp only [lv1, lv2, lv3, lv4, lv5, lv6, Bool.not_true, Bool.not_false] at h
    refine sr ?_; refine tlm ?_; refine tla ?_; refine tla ?_; refine nq ?_; refine tc_ret ?_; refine q_then_r ?_
    first
    | (have hp : rootA s = (0, e0) := by unfold rootA; rw [← he0, if_pos (by simpa using h)]
       rw [hp]; exact ⟨.tuple #[.int .u64 0, .int .i64 e0], C (RDev r s), res2 rfl rfl rfl, fun _ _ h => by rw [hC]; exact Dr.sat (by repeat (first | with_reducible exact dr_refl | apply dr_keep | apply dr_drop)) _ _ h, rfl, rfl⟩)
    | (have hp : rootA s = wordP 64 s := by unfold rootA; rw [← he0, if_neg (by simpa using h)]
       rw [hp]; exact ⟨.tuple #[.int .u64 (((wordP 64 s).1 : Nat) : Int), .int .i64 (wordP 64 s).2], C (RDev r s), res2 rfl rfl rfl, fun _ _ h => by rw [hC]; exact Dr.sat (by repeat (first | with_reducible exact dr_refl | apply dr_keep | apply dr_drop)) _ _ h, rfl, rfl⟩)
  · try simp only [lv1, lv2, lv3, lv4, lv5, lv6, Bool.not_true, Bool.not_false] at h
    refine tc_skip ?_; refine q_then_n ?_; refine sr ?_; refine tlm ?_; refine tl_c rfl (o_call bd29 rfl (rWord_c (s := s) (p := 64))) ?_; rintro _ _ ⟨rfl, rfl⟩; refine tv (o_extract rfl rfl) ?_; refine tv (o_extract rfl rfl) ?_; refine tla ?_; refine tla ?_; refine nq ?_; refine tc_ret ?_
    first
    | (have hp : rootA s = (0, e0) := by unfold rootA; rw [← he0, if_pos (by simpa using h)]
       rw [hp]; exact ⟨.tuple #[.int .u64 0, .int .i64 e0], C (RDev r s), res2 rfl rfl rfl, fun _ _ h => by rw [hC]; exact Dr.sat (by repeat (first | with_reducible exact dr_refl | apply dr_keep | apply dr_drop)) _ _ h, rfl, rfl⟩)
    | (have hp : rootA s = wordP 64 s := by unfold rootA; rw [← he0, if_neg (by simpa using h)]
       rw [hp]; exact ⟨.tuple #[.int .u64 (((wordP 64 s).1 : Nat) : Int), .int .i64 (wordP 64 s).2], C (RDev r s), res2 rfl rfl rfl, fun _ _ h => by rw [hC]; exact Dr.sat (by repeat (first | with_reducible exact dr_refl | apply dr_keep | apply dr_drop)) _ _ h, rfl, rfl⟩)
theorem rFormat_no {A R : SP} {C : SP → SP} {r : Nat} {s : DevS} (hc : Ct A (RDev r s) R C := by repeat (first | with_reducible exact ct_here | apply ct_left)) {n : Nat} (hoff : s.off = false) (hlen : s.ls.length * 64 = n) (hn : ¬ (36992 ≤ (n : Int) ∧ (n : Int) ≤ 4194304 ∧ (n : Int) % 64 = 0)) :
    Fn Tryz.prog 68 #[.pointer (some ⟨r, 0, none⟩)] (A) (fun v B => v = .tuple #[.agg (ints [0, 0, 0, 0, 0]).toArray, .int .i64 80] ∧ A = B) := by
  refine fn_enterW (args := [.pointer (some ⟨r, 0, none⟩)]) Tryz.func68 rfl Tryz.ntmps68 (by simp) ?_; refine tc_have (fun _ _ h => wfR_ct hc h) fun hw => ?_
  obtain ⟨rfl, hC⟩ := hc
  have htop := hw.top
  refine sr ?_; refine tl_x rfl (o_alloc z42 rfl) ?_; rintro _ _ ⟨b2, rfl, rfl⟩; refine tla ?_; refine nq ?_; refine tc_seq ?_; refine sr ?_; refine tlm ?_; refine tv (o_nilCheck rfl) ?_; refine tv (o_fieldAddr (o := 5) Tryz.underlying114 rfl rfl sz4 rfl) ?_; refine tv (rd_gone (s := s) (by repeat (first | with_reducible exact ct_here | apply ct_left)) p4 rfl) ?_; refine nq ?_; refine tc_cond rfl (fun h => ?_) (fun h => ?_)
  · exfalso; rw [hoff] at h; cases h
  · try simp only [lv1, lv2, lv3, lv4, lv5, lv6, Bool.not_true, Bool.not_false] at h
    refine tc_skip ?_; refine q_then_n ?_; refine sr ?_; refine tlm ?_; refine tv (o_nilCheck rfl) ?_; refine tv (o_fieldAddr (o := 0) Tryz.underlying114 rfl rfl sz3 rfl) ?_; refine tv (rd_bytes (s := s) (by repeat (first | with_reducible exact ct_here | apply ct_left)) p3 rfl) ?_; refine tl_env (d := 21) (v := .int .i64 (n : Int)) (congrArg (Value.int .i64) (by omega)) ?_; refine tl_c rfl (o_call bd62 rfl (PlanR_q (planT_f hn))) ?_; rintro _ _ ⟨rfl, rfl⟩; refine tlm ?_; refine tv (o_extract rfl rfl) ?_; refine tv (o_extract rfl rfl) ?_; refine tl_x rfl (o_alloc z42 rfl) ?_; rintro _ _ ⟨b4, rfl, rfl⟩; refine tl_u rfl (o_stUN (l' := ints [0, 0, 0, 0, 0]) rfl (by repeat (first | with_reducible exact upd_here | with_reducible exact upd_pt | apply upd_left)) sz42 rfl rfl rfl (by show 5 ≤ 5; decide) rfl) ?_; refine tla ?_; refine nq ?_; refine tc_seq ?_; refine sr ?_; refine tlm ?_; refine tv (o_nei rfl rfl) ?_; refine nq ?_; refine tc_cond rfl (fun h => ?_) (fun h => ?_)
    · try simp only [lv1, lv2, lv3, lv4, lv5, lv6, Bool.not_true, Bool.not_false] at h
      refine sr ?_; refine tv (o_bS (l := ints [0, 0, 0, 0, 0]) pv_nil Tryz.underlying42 z42 (pl42 Tryz.underlying42) rfl) ?_; refine tlm ?_; refine tl_u rfl (o_stUN (l' := ints [0, 0, 0, 0, 0]) rfl (by repeat (first | with_reducible exact upd_here | with_reducible exact upd_pt | apply upd_left)) sz42 rfl rfl rfl (by show 5 ≤ 5; decide) rfl) ?_; refine tla ?_; refine nq ?_; refine tc_ret ?_; refine q_then_r ?_; exact ⟨.tuple #[.agg (ints [0, 0, 0, 0, 0]).toArray, .int .i64 80], R * RDev r s, resA2 rfl (rv_cell a42 sz42 rfl (by repeat (first | with_reducible exact has_here | with_reducible exact has_pt | apply has_left)) (by show 5 ≤ 5; decide) rfl) (rv_tmp rfl), Dr.sat (by repeat (first | with_reducible exact dr_refl | apply dr_keep | apply dr_drop)), rfl, rfl⟩
    · exfalso; simp at h
set_option maxRecDepth 20000 in
set_option maxHeartbeats 2000000 in
theorem rFormat_ok {A R : SP} {C : SP → SP} {r : Nat} {s : DevS} (hc : Ct A (RDev r s) R C := by repeat (first | with_reducible exact ct_here | apply ct_left)) {n : Nat} (hoff : s.off = false) (hlen : s.ls.length * 64 = n) (hn : 36992 ≤ n ∧ n ≤ 4194304 ∧ n % 64 = 0) (hroom : Room 256 s) :
    Fn Tryz.prog 68 #[.pointer (some ⟨r, 0, none⟩)] (A) (fun v B => ∃ e s2, fmtF (fst4 n) s = (e, s2) ∧ v = .tuple #[.agg (ints (fmA n s).1).toArray, .int .i64 e] ∧ B = C (RDev r s2)) := by
  refine fn_enterW (args := [.pointer (some ⟨r, 0, none⟩)]) Tryz.func68 rfl Tryz.ntmps68 (by simp) ?_; refine tc_have (fun _ _ h => wfR_ct hc h) fun hw => ?_
  obtain ⟨rfl, hC⟩ := hc
  have htop := hw.top
  have hbl : (sbB [n, 128, 32768, 32896, (n - 32896) / 256, 0]).length = 64 := sbB_len rfl
  refine sr ?_; refine tl_x rfl (o_alloc z42 rfl) ?_; rintro _ _ ⟨b2, rfl, rfl⟩; refine tla ?_; refine nq ?_; refine tc_seq ?_; refine sr ?_; refine tlm ?_; refine tv (o_nilCheck rfl) ?_; refine tv (o_fieldAddr (o := 5) Tryz.underlying114 rfl rfl sz4 rfl) ?_; refine tv (rd_gone (s := s) (by repeat (first | with_reducible exact ct_here | apply ct_left)) p4 rfl) ?_; refine nq ?_; refine tc_cond rfl (fun h => ?_) (fun h => ?_)
  · exfalso; rw [hoff] at h; cases h
  · try simp only [lv1, lv2, lv3, lv4, lv5, lv6, Bool.not_true, Bool.not_false] at h
    refine tc_skip ?_; refine q_then_n ?_; refine sr ?_; refine tlm ?_; refine tv (o_nilCheck rfl) ?_; refine tv (o_fieldAddr (o := 0) Tryz.underlying114 rfl rfl sz3 rfl) ?_; refine tv (rd_bytes (s := s) (by repeat (first | with_reducible exact ct_here | apply ct_left)) p3 rfl) ?_; refine tl_env (d := 21) (v := .int .i64 (n : Int)) (congrArg (Value.int .i64) (by omega)) ?_; refine tl_c rfl (o_call bd62 rfl (PlanR_ok hn)) ?_; rintro _ _ ⟨rfl, rfl⟩; refine tlm ?_; refine tv (o_extract rfl rfl) ?_; refine tv (o_extract rfl rfl) ?_; refine tl_x rfl (o_alloc z42 rfl) ?_; rintro _ _ ⟨b4, rfl, rfl⟩; refine tl_u rfl (o_stUN (l' := ints [(n : Int), ((128 : Nat) : Int), ((32768 : Nat) : Int), ((32896 : Nat) : Int), (((n - 32896) / 256 : Nat) : Int)]) rfl (by repeat (first | with_reducible exact upd_here | with_reducible exact upd_pt | apply upd_left)) sz42 rfl rfl rfl (by show 5 ≤ 5; decide) rfl) ?_; refine tla ?_; refine nq ?_; refine tc_seq ?_; refine sr ?_; refine tlm ?_; refine tv (o_nei rfl rfl) ?_; refine nq ?_; refine tc_cond rfl (fun h => ?_) (fun h => ?_)
    · exfalso; simp at h
    · try simp only [lv1, lv2, lv3, lv4, lv5, lv6, Bool.not_true, Bool.not_false] at h
      refine tc_skip ?_; refine q_then_n ?_; refine sr ?_; refine tv (o_loadN (vs := ints [(n : Int), ((128 : Nat) : Int), ((32768 : Nat) : Int), ((32896 : Nat) : Int), (((n - 32896) / 256 : Nat) : Int)]) a42 sz42 rfl (by repeat (first | with_reducible exact has_here | with_reducible exact has_pt | apply has_left)) (by show 5 ≤ 5; decide) rfl) ?_; refine tl_c rfl (o_call bd64 rfl (LineR_ok hn)) ?_; rintro _ _ ⟨a31, c31, rfl, hc31, rfl⟩; refine tlm ?_; refine tv (o_extract rfl rfl) ?_; refine tv (o_extract rfl rfl) ?_; refine tla ?_; refine tla ?_; refine nq ?_; refine sr ?_; refine tl_x rfl (o_makeSlice (len := 64) (cap := 64) Tryz.underlying32 sz5 by5 z5 rfl rfl rfl (by decide) (by decide) (by decide)) ?_; rintro _ _ ⟨b34, rfl, rfl⟩
      rw [bys_rep]
      refine tla ?_; refine nq ?_; refine sr ?_; refine tl_x rfl (o_buildSliceL (k := 1) (vs := ints [0, 64, 128, 0]) (l := ints [0, 64, 128, 0]) Tryz.underlying34 sz3 z3 rfl rfl (by decide) (by decide) (by intro v hv; have := List.all_eq_true.1 (ints_all [0, 64, 128, 0]) v hv; cases v <;> first | (simp [oneC] at this; done) | rfl) rfl) ?_; rintro _ _ ⟨b35, rfl, rfl⟩; refine tla ?_; refine nq ?_; refine sr ?_; refine tlm ?_; refine tlm ?_; refine tlm ?_; refine tlm ?_; refine tl_x rfl (o_buildSliceL (k := 1) (vs := [.slice (some ⟨b34, 0, none⟩) 64 64, .slice (some ⟨b34, 0, none⟩) 64 64, .slice (some ⟨b34, 0, none⟩) 64 64, .slice a31 64 c31]) (l := [.slice (some ⟨b34, 0, none⟩) 64 64, .slice (some ⟨b34, 0, none⟩) 64 64, .slice (some ⟨b34, 0, none⟩) 64 64, .slice a31 64 c31]) Tryz.underlying88 sz32 z32 rfl rfl (by decide) (by decide) (by intro v hv; simp only [List.mem_cons, List.not_mem_nil, or_false] at hv; rcases hv with rfl | rfl | rfl | rfl <;> rfl) rfl) ?_; rintro _ _ ⟨b40, rfl, rfl⟩; refine tla ?_; refine nq ?_; refine tc_seq ?_; refine sr ?_; refine tla ?_; refine nq ?_; refine tc_block ?_; refine tc_loop (fun kk ρ BB => ∃ (i : Nat) (s1 : DevS), (i ≤ 4) ∧ (fmtF ((fst4 n).drop i) s1 = fmtF (fst4 n) s) ∧ (Room (64 * (4 - i)) s1) ∧ (WfD s1) ∧ (s1.ls.length = s.ls.length) ∧ kk = 4 - i ∧ ρ 11 = .int .i64 (i : Nat) ∧ ρ 0 = .pointer (some ⟨r, 0, none⟩) ∧ ρ 2 = .pointer (some ⟨b2, 0, none⟩) ∧ ρ 4 = .pointer (some ⟨b4, 0, none⟩) ∧ ρ 9 = .slice (some ⟨b35, 0, none⟩) 4 4 ∧ ρ 10 = .slice (some ⟨b40, 0, none⟩) 4 4 ∧ BB = R * RDev r s1 * pt b2 (cl (ints [0, 0, 0, 0, 0]) 42) * pt b4 (cl (ints [(n : Int), ((128 : Nat) : Int), ((32768 : Nat) : Int), ((32896 : Nat) : Int), (((n - 32896) / 256 : Nat) : Int)]) 42) * Sl 1 (.slice a31 64 c31) 64 (bys (sbB [n, 128, 32768, 32896, (n - 32896) / 256, 0])) * pt b34 (cl (bys (List.replicate 64 0)) 5) * pt b35 (cl (ints [0, 64, 128, 0]) 3) * pt b40 (cl [.slice (some ⟨b34, 0, none⟩) 64 64, .slice (some ⟨b34, 0, none⟩) 64 64, .slice (some ⟨b34, 0, none⟩) 64 64, .slice a31 64 c31] 32)) (m := 4 - (0)) ?_ ?_
      · exact ⟨0, s, by omega, rfl, hroom, hw, rfl, rfl, rfl, rfl, rfl, rfl, rfl, rfl, rfl⟩
      · intro k ρ B hI
        obtain ⟨i, s1, hp0, hp1, hp2, hp3, hp4, hkk1, hE11, hE0, hE2, hE4, hE9, hE10, rfl⟩ := hI
        refine tc_env (d := 11) hE11 ?_; refine tc_env (d := 0) hE0 ?_; refine tc_env (d := 2) hE2 ?_; refine tc_env (d := 4) hE4 ?_; refine tc_env (d := 9) hE9 ?_; refine tc_env (d := 10) hE10 ?_
        clear hE11 hE0 hE2 hE4 hE9 hE10
        refine tc_seq ?_; refine sr ?_; refine tlm ?_; refine tlm ?_; refine tv (o_len Tryz.underlying34 rfl) ?_; refine tv (o_lss rfl rfl) ?_; refine nq ?_; refine tc_cond rfl (fun h => ?_) (fun h => ?_)
        · have hi4 : i < 4 := by simp at h; omega
          obtain ⟨t, hi⟩ : ∃ t, (fst4 n)[i]? = some t := ⟨_, List.getElem?_eq_getElem (show i < (fst4 n).length from hi4)⟩
          obtain ⟨ht1, ht2, ht3⟩ := fst4_wf n _ (List.mem_of_getElem? hi)
          obtain ⟨at_, ct, g1, g2, hct, hrt⟩ : ∃ a c, (ints [0, 64, 128, 0])[i]? = some (.int .i64 ((t.1 : Nat) : Int)) ∧ ([.slice (some ⟨b34, 0, none⟩) 64 64, .slice (some ⟨b34, 0, none⟩) 64 64, .slice (some ⟨b34, 0, none⟩) 64 64, .slice a31 64 c31] : List Value)[i]? = some (.slice a 64 c) ∧ 64 ≤ c ∧ Rs (R * pt b2 (cl (ints [0, 0, 0, 0, 0]) 42) * pt b4 (cl (ints [(n : Int), ((128 : Nat) : Int), ((32768 : Nat) : Int), ((32896 : Nat) : Int), (((n - 32896) / 256 : Nat) : Int)]) 42) * Sl 1 (.slice a31 64 c31) 64 (bys (sbB [n, 128, 32768, 32896, (n - 32896) / 256, 0])) * pt b34 (cl (bys (List.replicate 64 0)) 5) * pt b35 (cl (ints [0, 64, 128, 0]) 3) * pt b40 (cl [.slice (some ⟨b34, 0, none⟩) 64 64, .slice (some ⟨b34, 0, none⟩) 64 64, .slice (some ⟨b34, 0, none⟩) 64 64, .slice a31 64 c31] 32)) a (bys t.2) := by
            match i, hi4 with
            | 0, _ => obtain rfl : _ = t := Option.some.inj hi; exact ⟨some ⟨b34, 0, none⟩, 64, rfl, rfl, by decide, (by repeat (first | with_reducible exact rs_pt0 | apply Rs.left))⟩
            | 1, _ => obtain rfl : _ = t := Option.some.inj hi; exact ⟨some ⟨b34, 0, none⟩, 64, rfl, rfl, by decide, (by repeat (first | with_reducible exact rs_pt0 | apply Rs.left))⟩
            | 2, _ => obtain rfl : _ = t := Option.some.inj hi; exact ⟨some ⟨b34, 0, none⟩, 64, rfl, rfl, by decide, (by repeat (first | with_reducible exact rs_pt0 | apply Rs.left))⟩
            | 3, _ => obtain rfl : _ = t := Option.some.inj hi; exact ⟨a31, c31, rfl, rfl, hc31, (by repeat (first | with_reducible exact rs_sl | apply Rs.left))⟩
          refine tc_skip ?_; refine q_then_n ?_; refine tc_seq ?_; refine tc_block ?_; refine tc_seq ?_; refine tc_regh (S := R * pt b2 (cl (ints [0, 0, 0, 0, 0]) 42) * pt b4 (cl (ints [(n : Int), ((128 : Nat) : Int), ((32768 : Nat) : Int), ((32896 : Nat) : Int), (((n - 32896) / 256 : Nat) : Int)]) 42) * Sl 1 (.slice a31 64 c31) 64 (bys (sbB [n, 128, 32768, 32896, (n - 32896) / 256, 0])) * pt b34 (cl (bys (List.replicate 64 0)) 5) * pt b35 (cl (ints [0, 64, 128, 0]) 3) * pt b40 (cl [.slice (some ⟨b34, 0, none⟩) 64 64, .slice (some ⟨b34, 0, none⟩) 64 64, .slice (some ⟨b34, 0, none⟩) 64 64, .slice a31 64 c31] 32)) mo (by repeat (first | with_reducible exact dr_refl | apply dr_keep | apply dr_drop)) ?_
          show TH _ _ _ _ _ 11 #[ff,ff,ff,ff,ff,ff,ff,ff,ff,ff,ff] _ _
          refine th_take (i := 0) (listed' := #[tt,ff,ff,ff,ff,ff,ff,ff,ff,ff,ff]) rfl (by kernel_rfl) (by kernel_rfl) (by kernel_rfl) rfl rfl (o_move (by conv => lhs; whnf)) ?_; refine th_take (i := 1) (listed' := #[tt,tt,ff,ff,ff,ff,ff,ff,ff,ff,ff]) rfl (by kernel_rfl) (by kernel_rfl) (by kernel_rfl) rfl rfl (o_move (by conv => lhs; whnf)) ?_; refine th_take (i := 2) (listed' := #[tt,tt,tt,ff,ff,ff,ff,ff,ff,ff,ff]) rfl (by kernel_rfl) (by kernel_rfl) (by kernel_rfl) rfl rfl (o_move (by conv => lhs; whnf)) ?_; refine th_take (i := 3) (listed' := #[tt,tt,tt,tt,ff,ff,ff,ff,ff,ff,ff]) rfl (by kernel_rfl) (by kernel_rfl) (by kernel_rfl) rfl rfl (o_ixP1 (a := some ⟨b35, 0, none⟩) Tryz.underlying34 sz3 rfl rfl (by omega) nn_some) ?_; refine th_take (i := 4) (listed' := #[tt,tt,tt,tt,tt,ff,ff,ff,ff,ff,ff]) rfl (by kernel_rfl) (by kernel_rfl) (by kernel_rfl) rfl rfl (o_ldP (a := some ⟨b35, 0, none⟩) p3 rfl (by repeat (first | with_reducible exact rs_pt0 | apply Rs.left)) g1) ?_; refine th_take (i := 5) (listed' := #[tt,tt,tt,tt,tt,tt,ff,ff,ff,ff,ff]) rfl (by kernel_rfl) (by kernel_rfl) (by kernel_rfl) rfl rfl (o_move (by conv => lhs; whnf)) ?_; refine th_take (i := 6) (listed' := #[tt,tt,tt,tt,tt,tt,tt,ff,ff,ff,ff]) rfl (by kernel_rfl) (by kernel_rfl) (by kernel_rfl) rfl rfl (o_move (by conv => lhs; whnf)) ?_; refine th_take (i := 7) (listed' := #[tt,tt,tt,tt,tt,tt,tt,tt,ff,ff,ff]) rfl (by kernel_rfl) (by kernel_rfl) (by kernel_rfl) rfl rfl (o_ixP1 (a := some ⟨b40, 0, none⟩) Tryz.underlying88 sz32 rfl rfl (by omega) nn_some) ?_
          refine th_take (i := 8) (listed' := #[tt,tt,tt,tt,tt,tt,tt,tt,tt,ff,ff]) rfl (by kernel_rfl) (by kernel_rfl) (by kernel_rfl) rfl rfl (o_ldP (a := some ⟨b40, 0, none⟩) p32 rfl (by repeat (first | with_reducible exact rs_pt0 | apply Rs.left)) g2) ?_; refine th_one (i := 9) (by kernel_rfl) ?_; refine oh_c (i := 9) (listed' := #[tt,tt,tt,tt,tt,tt,tt,tt,tt,tt,ff]) rfl rfl rfl (o_call bd81 rfl (rBytes_c (s := s1) (p := ((t.1 : Nat) : Int)) (xs := t.2) (hr := hrt) (hm := ht1) (hb := ht2) (hroom := fun _ => room_le hp2 (by omega)))) ?_; rintro _ _ ⟨e56, s56, hs56, rfl, rfl⟩; refine ⟨by repeat (first | with_reducible exact dr_refl | apply dr_keep | apply dr_drop), ?_⟩; refine th_take (i := 10) (listed' := #[tt,tt,tt,tt,tt,tt,tt,tt,tt,tt,tt]) rfl (by kernel_rfl) (by kernel_rfl) (by kernel_rfl) rfl rfl (o_assign (by conv => lhs; whnf)) ?_; refine th_done (by kernel_rfl) ?_; refine q_then_n ?_; refine sr ?_; refine tlm ?_; refine tv (o_nei rfl rfl) ?_; refine nq ?_; refine tc_cond rfl (fun h => ?_) (fun h => ?_)
          · have h : e56 ≠ 0 := by simpa using h
            refine sr ?_; refine tv (o_bS (l := ints [0, 0, 0, 0, 0]) pv_nil Tryz.underlying42 z42 (pl42 Tryz.underlying42) rfl) ?_; refine tlm ?_; refine tl_u rfl (o_stUN (l' := ints [0, 0, 0, 0, 0]) rfl (by repeat (first | with_reducible exact upd_here | with_reducible exact upd_pt | apply upd_left)) sz42 rfl rfl rfl (by show 5 ≤ 5; decide) rfl) ?_; refine tla ?_; refine nq ?_; refine tc_ret ?_; refine q_block_r (q_then_r (q_then_r (q_block_r (q_then_r ?_))))
            first
            | (have hp : fmtF (fst4 n) s = (e56, s56) := by rw [← hp1]; exact fmt_e hi hs56 h
               have ha : fmA n s = ([0, 0, 0, 0, 0], e56) := by unfold fmA; rw [hp, if_pos h]
               rw [ha]; exact ⟨.tuple #[.agg (ints [0, 0, 0, 0, 0]).toArray, .int .i64 e56], C (RDev r s56), resA2 rfl (rv_cell a42 sz42 rfl (by repeat (first | with_reducible exact has_here | with_reducible exact has_pt | apply has_left)) (by show 5 ≤ 5; decide) rfl) (rv_tmp rfl), fun _ _ h => by rw [hC]; exact (Dr.sat (by repeat (first | with_reducible exact dr_refl | apply dr_keep | apply dr_drop))) _ _ h, e56, s56, hp, rfl, rfl⟩)
            | (have ha : fmA n s = ([(n : Int), ((128 : Nat) : Int), ((32768 : Nat) : Int), ((32896 : Nat) : Int), (((n - 32896) / 256 : Nat) : Int)], 0) := by unfold fmA; rw [hq, if_neg (by simp)]
               rw [ha]; exact ⟨.tuple #[.agg (ints [(n : Int), ((128 : Nat) : Int), ((32768 : Nat) : Int), ((32896 : Nat) : Int), (((n - 32896) / 256 : Nat) : Int)]).toArray, .int .i64 0], C (RDev r s1), resA2 rfl (rv_cell a42 sz42 rfl (by repeat (first | with_reducible exact has_here | with_reducible exact has_pt | apply has_left)) (by show 5 ≤ 5; decide) rfl) (rv_tmp rfl), fun _ _ h => by rw [hC]; exact (Dr.sat (by repeat (first | with_reducible exact dr_refl | apply dr_keep | apply dr_drop))) _ _ h, 0, s1, hq, rfl, rfl⟩)
          · obtain rfl : e56 = 0 := by simpa using h
            refine tc_skip ?_; refine q_block_n (q_then_n ?_); refine tc_reg ?_; refine tlm ?_; refine tv (by first | exact o_addI rfl rfl (by omega) | exact o_add rfl rfl) ?_; refine tla ?_; refine nq ?_; exact ⟨_, by omega, i + 1, s56, by omega, by rw [← hp1]; exact (fmt_o hi hs56).symm, by have := (bytesP_room (r := 64 * (4 - (i + 1))) (p := ((t.1 : Nat) : Int)) hp3 ht2 (by rw [ht1]; exact room_le hp2 (by omega))).1; rw [hs56] at this; exact this, by have := (bytesP_room (r := 0) (p := ((t.1 : Nat) : Int)) hp3 ht2 (by rw [ht1]; exact room_le hp2 (by omega))).2; rw [hs56] at this; exact this, by have := bytesP_len ((t.1 : Nat) : Int) t.2 s1; rw [hs56] at this; exact this.trans hp4, rfl, rfl, rfl, rfl, rfl, rfl, rfl, rfl⟩
        · obtain rfl : i = 4 := by simp at h; omega
          have hq : fmtF (fst4 n) s = (0, s1) := by rw [← hp1]; rfl
          refine tc_exit ?_; refine q_then_e (q_then_e (q_block_x (q_then_n ?_))); refine sr ?_; refine tv (o_loadN (vs := ints [(n : Int), ((128 : Nat) : Int), ((32768 : Nat) : Int), ((32896 : Nat) : Int), (((n - 32896) / 256 : Nat) : Int)]) a42 sz42 rfl (by repeat (first | with_reducible exact has_here | with_reducible exact has_pt | apply has_left)) (by show 5 ≤ 5; decide) rfl) ?_; refine tl_u rfl (o_stUN (l' := ints [(n : Int), ((128 : Nat) : Int), ((32768 : Nat) : Int), ((32896 : Nat) : Int), (((n - 32896) / 256 : Nat) : Int)]) rfl (by repeat (first | with_reducible exact upd_here | with_reducible exact upd_pt | apply upd_left)) sz42 rfl rfl rfl (by show 5 ≤ 5; decide) rfl) ?_; refine tla ?_; refine nq ?_; refine tc_ret ?_
          first
          | (have hp : fmtF (fst4 n) s = (e56, s56) := by rw [← hp1]; exact fmt_e hi hs56 h
             have ha : fmA n s = ([0, 0, 0, 0, 0], e56) := by unfold fmA; rw [hp, if_pos h]
             rw [ha]; exact ⟨.tuple #[.agg (ints [0, 0, 0, 0, 0]).toArray, .int .i64 e56], C (RDev r s56), resA2 rfl (rv_cell a42 sz42 rfl (by repeat (first | with_reducible exact has_here | with_reducible exact has_pt | apply has_left)) (by show 5 ≤ 5; decide) rfl) (rv_tmp rfl), fun _ _ h => by rw [hC]; exact (Dr.sat (by repeat (first | with_reducible exact dr_refl | apply dr_keep | apply dr_drop))) _ _ h, e56, s56, hp, rfl, rfl⟩)
          | (have ha : fmA n s = ([(n : Int), ((128 : Nat) : Int), ((32768 : Nat) : Int), ((32896 : Nat) : Int), (((n - 32896) / 256 : Nat) : Int)], 0) := by unfold fmA; rw [hq, if_neg (by simp)]
             rw [ha]; exact ⟨.tuple #[.agg (ints [(n : Int), ((128 : Nat) : Int), ((32768 : Nat) : Int), ((32896 : Nat) : Int), (((n - 32896) / 256 : Nat) : Int)]).toArray, .int .i64 0], C (RDev r s1), resA2 rfl (rv_cell a42 sz42 rfl (by repeat (first | with_reducible exact has_here | with_reducible exact has_pt | apply has_left)) (by show 5 ≤ 5; decide) rfl) (rv_tmp rfl), fun _ _ h => by rw [hC]; exact (Dr.sat (by repeat (first | with_reducible exact dr_refl | apply dr_keep | apply dr_drop))) _ _ h, 0, s1, hq, rfl, rfl⟩)
end Go.Vl

set_option linter.unusedVariables false
set_option linter.unusedSimpArgs false
namespace Go.Vl
open Go Go.Proofs
theorem rRoot_5 {A R : SP} {C : SP → SP} {r : Nat} {s : DevS} {w : Nat} {e : Int} (hc : Ct A (RDev r s) R C) (hr : rootA s = (w, e)) : Fn Tryz.prog 70 #[.pointer (some ⟨r, 0, none⟩)] A (fun v B => v = .tuple #[.int .u64 ((w : Nat) : Int), .int .i64 e] ∧ B = C (RDev r s)) := by
  have := rRoot_c hc; rw [hr] at this; exact this
attribute [local irreducible] crk crL crc Sl pt ro mbs sbB planT Dev RDev imgS lineT fromS
set_option maxRecDepth 20000 in
set_option maxHeartbeats 4000000 in
theorem SuperReads_n1 (A : SP) {sz tn : Int} {fl hcp : Nat} {ha : Option Addr} {hd : List Nat} {rt : Bool} (hrh : Rs A ha (bys hd)) (hhb : ∀ x ∈ hd, x < 256) (hfl : fl < 256) (hht : -9223372036854775808 ≤ tn ∧ tn ≤ 9223372036854775807) (hhl : hd.length ≤ 140737488351232) (hs : sz < 0 ∨ 4194368 < sz) :
    Fn Tryz.prog 14 #[.agg ([.int .i64 sz, .int .u8 (fl : Nat), .slice ha hd.length hcp, .bool rt, .int .i64 tn] : List Value).toArray] (A) (fun r B => r = .bool true ∧ B = A) := by
  refine fn_enterW (args := [.agg ([.int .i64 sz, .int .u8 (fl : Nat), .slice ha hd.length hcp, .bool rt, .int .i64 tn] : List Value).toArray]) Tryz.func14 rfl Tryz.ntmps14 (by simp) ?_; refine sr ?_; refine tl_x rfl (o_box rfl rfl) ?_; rintro _ _ ⟨b1, rfl, rfl⟩; refine tla ?_; refine nq ?_; refine sr ?_; refine tv (o_loadN (vs := [.int .i64 sz, .int .u8 (fl : Nat), .slice ha hd.length hcp, .bool rt, .int .i64 tn]) a45 sz45 rfl (by repeat (first | with_reducible exact has_here | with_reducible exact has_pt | apply has_left)) (by show 5 ≤ 5; decide) rfl) ?_; refine tl_c rfl (o_call bd66 rfl (ImBytes_no (hrh := (by repeat (first | exact hrh | apply Rs.left))) (hhb := hhb) (hfl := hfl) (hht := hht) (hs := hs))) ?_; rintro _ _ ⟨rfl, rfl⟩; refine tla ?_; refine nq ?_; refine sr ?_; refine tlm ?_; refine tl_c rfl (o_call bd35 rfl (CopyBytes_c (xs := []) (hr := rs_nil) (hm := rfl))) ?_; rintro _ _ ⟨a21, c21, rfl, hc21, rfl⟩; refine tl_c rfl (o_call bd67 rfl (FromNo_c (hno := by decide))) ?_; rintro _ _ ⟨rfl, rfl⟩; refine tlm ?_; refine tv (o_extract rfl rfl) ?_; refine tv (o_extract rfl rfl) ?_; refine tla ?_; refine tla ?_; refine nq ?_; refine sr ?_; refine tlm ?_; refine tl_c rfl (o_call bd22 rfl (rFromNo_c (hno := by decide))) ?_; rintro _ _ ⟨rfl, rfl⟩; refine tlm ?_; refine tv (o_extract rfl rfl) ?_
  refine tv (o_extract rfl rfl) ?_; refine tla ?_; refine tla ?_; refine nq ?_; refine tc_seq ?_; refine sr ?_; refine tlm ?_; refine tlm ?_; refine tv (o_nei rfl rfl) ?_; refine nq ?_; refine tc_cond rfl (fun h => ?_) (fun h => ?_)
  · exfalso; simp at h
  · try simp only [lv1, lv2, lv3, lv4, lv5, lv6, Bool.not_true, Bool.not_false] at h
    refine tc_skip ?_; refine q_then_n ?_; refine tc_seq ?_; refine sr ?_; refine tlm ?_; refine tv (o_nei rfl rfl) ?_; refine nq ?_; refine tc_cond rfl (fun h => ?_) (fun h => ?_)
    · try simp only [lv1, lv2, lv3, lv4, lv5, lv6, Bool.not_true, Bool.not_false] at h
      refine sr ?_; refine tl_c rfl (o_call bd19 rfl (works_c)) ?_; rintro _ _ ⟨rfl, rfl⟩; refine tla ?_; refine nq ?_; refine tc_ret ?_; refine q_then_r ?_; exact ⟨.bool true, A, res1 rfl rfl, Dr.sat (by repeat (first | with_reducible exact dr_refl | apply dr_keep | apply dr_drop)), rfl, rfl⟩
    · exfalso; simp at h
set_option maxRecDepth 20000 in
set_option maxHeartbeats 4000000 in
theorem SuperReads_n2 (A : SP) {n : Nat} {tn : Int} {fl hcp : Nat} {ha : Option Addr} {hd : List Nat} {rt : Bool} (hrh : Rs A ha (bys hd)) (hhb : ∀ x ∈ hd, x < 256) (hfl : fl < 256) (hht : -9223372036854775808 ≤ tn ∧ tn ≤ 9223372036854775807) (hhl : hd.length ≤ 140737488351232) (hn : n ≤ 4194368) (hno : fitsB (n : Nat) = false) :
    Fn Tryz.prog 14 #[.agg ([.int .i64 (n : Int), .int .u8 (fl : Nat), .slice ha hd.length hcp, .bool rt, .int .i64 tn] : List Value).toArray] (A) (fun r B => r = .bool true ∧ B = A) := by
  refine fn_enterW (args := [.agg ([.int .i64 (n : Int), .int .u8 (fl : Nat), .slice ha hd.length hcp, .bool rt, .int .i64 tn] : List Value).toArray]) Tryz.func14 rfl Tryz.ntmps14 (by simp) ?_; refine sr ?_; refine tl_x rfl (o_box rfl rfl) ?_; rintro _ _ ⟨b1, rfl, rfl⟩; refine tla ?_; refine nq ?_; refine sr ?_; refine tv (o_loadN (vs := [.int .i64 (n : Int), .int .u8 (fl : Nat), .slice ha hd.length hcp, .bool rt, .int .i64 tn]) a45 sz45 rfl (by repeat (first | with_reducible exact has_here | with_reducible exact has_pt | apply has_left)) (by show 5 ≤ 5; decide) rfl) ?_; refine tl_c rfl (o_call bd66 rfl (ImBytes_ok (hrh := (by repeat (first | exact hrh | apply Rs.left))) (hhb := hhb) (hfl := hfl) (hht := hht) (hn := by omega) (hhl := hhl))) ?_; rintro _ _ ⟨a18, c18, xs, rfl, hc18, hxl, hxb, rfl⟩; refine tla ?_; refine nq ?_; refine sr ?_; refine tlm ?_; refine tl_c rfl (o_call bd35 rfl (CopyBytes_c (xs := xs))) ?_; rintro _ _ ⟨u21, c21, rfl, hc21, rfl⟩; refine tl_c rfl (o_call bd67 rfl (FromNo_c (m := n) (hno := hno))) ?_; rintro _ _ ⟨rfl, rfl⟩; refine tlm ?_; refine tv (o_extract rfl rfl) ?_; refine tv (o_extract rfl rfl) ?_; refine tla ?_; refine tla ?_; refine nq ?_; refine sr ?_; refine tlm ?_; refine tl_c rfl (o_call bd22 rfl (rFromNo_c (m := n) (hno := hno))) ?_; rintro _ _ ⟨rfl, rfl⟩; refine tlm ?_
  refine tv (o_extract rfl rfl) ?_; refine tv (o_extract rfl rfl) ?_; refine tla ?_; refine tla ?_; refine nq ?_; refine tc_seq ?_; refine sr ?_; refine tlm ?_; refine tlm ?_; refine tv (o_nei rfl rfl) ?_; refine nq ?_; refine tc_cond rfl (fun h => ?_) (fun h => ?_)
  · exfalso; simp at h
  · try simp only [lv1, lv2, lv3, lv4, lv5, lv6, Bool.not_true, Bool.not_false] at h
    refine tc_skip ?_; refine q_then_n ?_; refine tc_seq ?_; refine sr ?_; refine tlm ?_; refine tv (o_nei rfl rfl) ?_; refine nq ?_; refine tc_cond rfl (fun h => ?_) (fun h => ?_)
    · try simp only [lv1, lv2, lv3, lv4, lv5, lv6, Bool.not_true, Bool.not_false] at h
      refine sr ?_; refine tl_c rfl (o_call bd19 rfl (works_c)) ?_; rintro _ _ ⟨rfl, rfl⟩; refine tla ?_; refine nq ?_; refine tc_ret ?_; refine q_then_r ?_; exact ⟨.bool true, A, res1 rfl rfl, Dr.sat (by repeat (first | with_reducible exact dr_refl | apply dr_keep | apply dr_drop)), rfl, rfl⟩
    · exfalso; simp at h
set_option maxRecDepth 20000 in
set_option maxHeartbeats 4000000 in
theorem SuperReads_ok (A : SP) {n : Nat} {tn : Int} {fl hcp : Nat} {ha : Option Addr} {hd : List Nat} {rt : Bool} (hrh : Rs A ha (bys hd)) (hhb : ∀ x ∈ hd, x < 256) (hfl : fl < 256) (hht : -9223372036854775808 ≤ tn ∧ tn ≤ 9223372036854775807) (hhl : hd.length ≤ 140737488351232) {k : Nat} (hk : n = k * 64) (hk0 : 0 < k) (hn2 : n ≤ 4194304) :
    Fn Tryz.prog 14 #[.agg ([.int .i64 (n : Int), .int .u8 (fl : Nat), .slice ha hd.length hcp, .bool rt, .int .i64 tn] : List Value).toArray] (A) (fun r B => r = .bool true ∧ B = A) := by
  refine fn_enterW (args := [.agg ([.int .i64 (n : Int), .int .u8 (fl : Nat), .slice ha hd.length hcp, .bool rt, .int .i64 tn] : List Value).toArray]) Tryz.func14 rfl Tryz.ntmps14 (by simp) ?_; refine sr ?_; refine tl_x rfl (o_box rfl rfl) ?_; rintro _ _ ⟨b1, rfl, rfl⟩; refine tla ?_; refine nq ?_; refine sr ?_; refine tv (o_loadN (vs := [.int .i64 (n : Int), .int .u8 (fl : Nat), .slice ha hd.length hcp, .bool rt, .int .i64 tn]) a45 sz45 rfl (by repeat (first | with_reducible exact has_here | with_reducible exact has_pt | apply has_left)) (by show 5 ≤ 5; decide) rfl) ?_; refine tl_c rfl (o_call bd66 rfl (ImBytes_ok (hrh := (by repeat (first | exact hrh | apply Rs.left))) (hhb := hhb) (hfl := hfl) (hht := hht) (hn := by omega) (hhl := hhl))) ?_; rintro _ _ ⟨a18, c18, xs, rfl, hc18, hxl, hxb, rfl⟩; refine tla ?_; refine nq ?_; refine sr ?_; refine tlm ?_; refine tl_c rfl (o_call bd35 rfl (CopyBytes_c (xs := xs))) ?_; rintro _ _ ⟨u21, c21, rfl, hc21, rfl⟩; refine tl_c rfl (o_call bd67 rfl (From_c (n := k) (xs := xs))) ?_; rintro _ _ ⟨d22, rfl, rfl⟩; refine tlm ?_; refine tv (o_extract rfl rfl) ?_; refine tv (o_extract rfl rfl) ?_; refine tla ?_; refine tla ?_; refine nq ?_; refine sr ?_; refine tlm ?_; refine tl_c rfl (o_call bd22 rfl (rFrom_c (n := k) (xs := xs))) ?_; rintro _ _ ⟨d27, rfl, rfl⟩; refine tlm ?_
  refine tv (o_extract rfl rfl) ?_; refine tv (o_extract rfl rfl) ?_; refine tla ?_; refine tla ?_; refine nq ?_; refine tc_seq ?_; refine sr ?_; refine tlm ?_; refine tlm ?_; refine tv (o_nei rfl rfl) ?_; refine nq ?_; refine tc_cond rfl (fun h => ?_) (fun h => ?_)
  · exfalso; simp at h
  · try simp only [lv1, lv2, lv3, lv4, lv5, lv6, Bool.not_true, Bool.not_false] at h
    refine tc_skip ?_; refine q_then_n ?_; refine tc_seq ?_; refine sr ?_; refine tlm ?_; refine tv (o_nei rfl rfl) ?_; refine nq ?_; refine tc_cond rfl (fun h => ?_) (fun h => ?_)
    · exfalso; simp at h
    · try simp only [lv1, lv2, lv3, lv4, lv5, lv6, Bool.not_true, Bool.not_false] at h
      refine tc_skip ?_; refine q_then_n ?_; refine tc_seq ?_; refine sr ?_; refine tla ?_; refine nq ?_; refine tc_block ?_; refine tc_pre (A' := A * Dev d22 (fromS k xs) * RDev d27 (fromS k xs)) (Dr.sat (by repeat (first | with_reducible exact dr_refl | apply dr_keep | apply dr_drop))) ?_; refine tc_loop (fun kk ρ BB => ∃ (i : Nat) (s1 : DevS), (i ≤ 2) ∧ kk = 2 - i ∧ ρ 8 = .int .i64 (i : Nat) ∧ ρ 4 = .pointer (some ⟨d22, 0, none⟩) ∧ ρ 6 = .pointer (some ⟨d27, 0, none⟩) ∧ BB = A * Dev d22 s1 * RDev d27 s1) (m := 2 - (0)) ?_ ?_
      · exact ⟨0, fromS k xs, by omega, rfl, rfl, rfl, rfl, rfl⟩
      · intro k ρ B hI
        obtain ⟨i, s1, hp0, hkk1, hE8, hE4, hE6, rfl⟩ := hI
        refine tc_env (d := 8) hE8 ?_; refine tc_env (d := 4) hE4 ?_; refine tc_env (d := 6) hE6 ?_
        clear hE8 hE4 hE6
        refine tc_seq ?_; refine sr ?_; refine tlm ?_; refine tv (o_lss rfl rfl) ?_; refine nq ?_; refine tc_cond rfl (fun h => ?_) (fun h => ?_)
        · have hi : i < 2 := by simp at h; omega
          obtain ⟨q0, q1, q2, q3, q4, hq⟩ := five_i (rdA_len s1)
          obtain ⟨e0, he0⟩ : ∃ e0, e0 = (rdA s1).2 := ⟨_, rfl⟩
          have hrd : rdA s1 = ([q0, q1, q2, q3, q4], e0) := by rw [← hq, he0]
          obtain ⟨w6, hw6⟩ : ∃ w6, w6 = (rootA s1).1 := ⟨_, rfl⟩
          obtain ⟨e6, he6⟩ : ∃ e6, e6 = (rootA s1).2 := ⟨_, rfl⟩
          have hroot : rootA s1 = (w6, e6) := by rw [hw6, he6]
          refine tc_skip ?_; refine q_then_n ?_; refine tc_seq ?_; refine tc_block ?_; refine sr ?_; refine tlm ?_; refine tl_c rfl (o_call bd16 rfl (Read_5 (s := s1) (by repeat (first | with_reducible exact ct_here | apply ct_left)) hrd)) ?_; rintro _ _ ⟨rfl, rfl⟩; refine tlm ?_; refine tv (o_extract rfl rfl) ?_; refine tv (o_extract rfl rfl) ?_; refine tl_x rfl (o_alloc z42 rfl) ?_; rintro _ _ ⟨b9, rfl, rfl⟩; refine tl_u rfl (o_stUN (l' := ints [q0, q1, q2, q3, q4]) rfl (by repeat (first | with_reducible exact upd_here | with_reducible exact upd_pt | apply upd_left)) sz42 rfl rfl rfl (by show 5 ≤ 5; decide) rfl) ?_; refine tla ?_; refine nq ?_; refine sr ?_; refine tlm ?_; refine tl_c rfl (o_call bd69 rfl (rRead_5 (s := s1) (by repeat (first | with_reducible exact ct_here | apply ct_left)) hrd)) ?_; rintro _ _ ⟨rfl, rfl⟩; refine tlm ?_; refine tv (o_extract rfl rfl) ?_; refine tv (o_extract rfl rfl) ?_; refine tl_x rfl (o_alloc z42 rfl) ?_; rintro _ _ ⟨b11, rfl, rfl⟩; refine tl_u rfl (o_stUN (l' := ints [q0, q1, q2, q3, q4]) rfl (by repeat (first | with_reducible exact upd_here | with_reducible exact upd_pt | apply upd_left)) sz42 rfl rfl rfl (by show 5 ≤ 5; decide) rfl) ?_
          refine tla ?_; refine nq ?_; refine sr ?_; refine tlm ?_; refine tl_c rfl (o_call bd17 rfl (Root_5 (s := s1) (by repeat (first | with_reducible exact ct_here | apply ct_left)) hroot)) ?_; rintro _ _ ⟨rfl, rfl⟩; refine tlm ?_; refine tv (o_extract rfl rfl) ?_; refine tv (o_extract rfl rfl) ?_; refine tla ?_; refine tla ?_; refine nq ?_; refine sr ?_; refine tlm ?_; refine tl_c rfl (o_call bd70 rfl (rRoot_5 (s := s1) (by repeat (first | with_reducible exact ct_here | apply ct_left)) hroot)) ?_; rintro _ _ ⟨rfl, rfl⟩; refine tlm ?_; refine tv (o_extract rfl rfl) ?_; refine tv (o_extract rfl rfl) ?_; refine tla ?_; refine tla ?_; refine nq ?_; refine tc_seq ?_; refine sr ?_; refine tv (o_loadN (vs := ints [q0, q1, q2, q3, q4]) a42 sz42 rfl (by repeat (first | with_reducible exact has_here | with_reducible exact has_pt | apply has_left)) (by show 5 ≤ 5; decide) rfl) ?_; refine tv (o_loadN (vs := ints [q0, q1, q2, q3, q4]) a42 sz42 rfl (by repeat (first | with_reducible exact has_here | with_reducible exact has_pt | apply has_left)) (by show 5 ≤ 5; decide) rfl) ?_
          refine tv (o_nest (k := 5) (l := [q0, q1, q2, q3, q4]) (m := [q0, q1, q2, q3, q4]) Tryz.underlying42 (by kernel_rfl) (by kernel_rfl) (by kernel_rfl) rfl rfl rfl rfl) ?_; refine tlm ?_; refine tl_bool (d := 63) rfl (fun h => ?_) (fun h => ?_)
          · exfalso; simp at h
          · try simp only [lv1, lv2, lv3, lv4, lv5, lv6, Bool.not_true, Bool.not_false] at h
            refine tlm ?_; refine tlm ?_; refine tv (o_nei rfl rfl) ?_; refine tv (o_pick_f rfl (by conv => lhs; whnf)) ?_; refine tlm ?_; refine tl_bool (d := 68) rfl (fun h => ?_) (fun h => ?_)
            · exfalso; simp at h
            · try simp only [lv1, lv2, lv3, lv4, lv5, lv6, Bool.not_true, Bool.not_false] at h
              refine tlm ?_; refine tlm ?_; refine tv (o_nei rfl rfl) ?_; refine tv (o_pick_f rfl (by conv => lhs; whnf)) ?_; refine tlm ?_; refine tl_bool (d := 73) rfl (fun h => ?_) (fun h => ?_)
              · exfalso; simp at h
              · try simp only [lv1, lv2, lv3, lv4, lv5, lv6, Bool.not_true, Bool.not_false] at h
                refine tlm ?_; refine tlm ?_; refine tv (o_nei rfl rfl) ?_; refine tv (o_pick_f rfl (by conv => lhs; whnf)) ?_; refine tlm ?_; refine tl_bool (d := 78) rfl (fun h => ?_) (fun h => ?_)
                · exfalso; simp at h
                · try simp only [lv1, lv2, lv3, lv4, lv5, lv6, Bool.not_true, Bool.not_false] at h
                  refine tlm ?_; refine tl_c rfl (o_call bd47 rfl (Ops_c (s := s1))) ?_; rintro _ _ ⟨rfl, rfl⟩; refine tlm ?_; refine tl_c rfl (o_call bd48 rfl (rOps_c (s := s1))) ?_; rintro _ _ ⟨rfl, rfl⟩; refine tv (o_nei rfl rfl) ?_; refine tv (o_pick_f rfl (by conv => lhs; whnf)) ?_; refine tlm ?_; refine tl_bool (d := 85) rfl (fun h => ?_) (fun h => ?_)
                  · exfalso; simp at h
                  · try simp only [lv1, lv2, lv3, lv4, lv5, lv6, Bool.not_true, Bool.not_false] at h
                    refine tlm ?_; refine tl_c rfl (o_call bd54 rfl (Image_c (s := s1))) ?_; rintro _ _ ⟨a87, c87, rfl, hc87, rfl⟩; refine tlm ?_; refine tl_c rfl (o_call bd55 rfl (rImage_c (s := s1))) ?_; rintro _ _ ⟨a89, c89, rfl, hc89, rfl⟩; refine tl_have (fun _ _ h => wfR_ct (r := d27) (s := s1) (by repeat (first | with_reducible exact ct_here | apply ct_left)) h) fun hw1 => ?_
                    have hil := imgS_len hw1
                    have htop1 := hw1.top
                    refine tl_c rfl (o_call bd53 rfl (EqBytes_c (xs := imgS s1) (ys := imgS s1) (hx := hil) (hy := hil))) ?_; rintro _ _ ⟨rfl, rfl⟩; refine tl_env (d := 90) (v := .bool true) (congrArg Value.bool (decide_eq_true rfl)) ?_; refine tv (o_not rfl) ?_; refine tv (o_pick_f rfl (by conv => lhs; whnf)) ?_; refine nq ?_; refine tc_cond rfl (fun h => ?_) (fun h => ?_)
                    · exfalso; simp at h
                    · try simp only [lv1, lv2, lv3, lv4, lv5, lv6, Bool.not_true, Bool.not_false] at h
                      refine tc_skip ?_; refine q_then_n ?_; refine sr ?_; refine tlm ?_; refine tv (o_eqi rfl rfl) ?_; refine tlm ?_; refine tl_bool (d := 95) rfl (fun h => ?_) (fun h => ?_)
                      · try simp only [lv1, lv2, lv3, lv4, lv5, lv6, Bool.not_true, Bool.not_false] at h
                        refine tlm ?_; refine tl_c rfl (o_call bd43 rfl (Crash_c (s := s1) (keep := []) (hr := rs_nil) (hk := fun x h => by simp at h) (hm := rfl))) ?_; rintro _ _ ⟨e97, s97, hs97, rfl, rfl⟩; refine tlm ?_; refine tl_c rfl (o_call bd44 rfl (rCrash_c (s := s1) (keep := []) (hr := rs_nil) (hk := fun x h => by simp at h) (hm := rfl))) ?_; rintro _ _ ⟨e99, s99, hs99, rfl, rfl⟩
                        obtain ⟨rfl, rfl⟩ : e97 = e99 ∧ s97 = s99 := by rw [hs97] at hs99; simpa using hs99
                        refine tv (o_nei rfl rfl) ?_; refine tv (o_pick_t rfl (by conv => lhs; whnf)) ?_; refine nq ?_; refine tc_cond rfl (fun h => ?_) (fun h => ?_)
                        · exfalso; simp at h
                        · try simp only [lv1, lv2, lv3, lv4, lv5, lv6, Bool.not_true, Bool.not_false] at h
                          refine tc_skip ?_; refine q_block_n (q_then_n ?_); refine tc_pre (A' := A * Dev d22 _ * RDev d27 _) (Dr.sat (by repeat (first | with_reducible exact dr_refl | apply dr_keep | apply dr_drop))) ?_; refine tc_reg ?_; refine tlm ?_; refine tv (by first | exact o_addI rfl rfl (by omega) | exact o_add rfl rfl) ?_; refine tla ?_; refine nq ?_; exact ⟨_, by omega, i + 1, _, by omega, rfl, rfl, rfl, rfl, rfl⟩
                      · try simp only [lv1, lv2, lv3, lv4, lv5, lv6, Bool.not_true, Bool.not_false] at h
                        refine tk ?_; refine tk ?_; refine tk ?_; refine tk ?_; refine tk ?_; refine tv (o_pick_f rfl (by conv => lhs; whnf)) ?_; refine nq ?_; refine tc_cond_f rfl ?_; refine tc_skip ?_; refine q_block_n (q_then_n ?_); refine tc_pre (A' := A * Dev d22 _ * RDev d27 _) (Dr.sat (by repeat (first | with_reducible exact dr_refl | apply dr_keep | apply dr_drop))) ?_; refine tc_reg ?_; refine tlm ?_; refine tv (by first | exact o_addI rfl rfl (by omega) | exact o_add rfl rfl) ?_; refine tla ?_; refine nq ?_; exact ⟨_, by omega, i + 1, _, by omega, rfl, rfl, rfl, rfl, rfl⟩
        · try simp only [lv1, lv2, lv3, lv4, lv5, lv6, Bool.not_true, Bool.not_false] at h
          refine tc_exit ?_; refine q_then_e (q_then_e (q_block_x (q_then_n ?_))); refine sr ?_; refine tl_c rfl (o_call bd19 rfl (works_c)) ?_; rintro _ _ ⟨rfl, rfl⟩; refine tla ?_; refine nq ?_; refine tc_ret ?_; exact ⟨.bool true, A, res1 rfl rfl, Dr.sat (by repeat (first | with_reducible exact dr_refl | apply dr_keep | apply dr_drop)), rfl, rfl⟩
set_option maxRecDepth 20000 in
theorem SuperReads_L (F : SP) (cs : Array Value) (t : ImC) (h : PImg F cs.toList t) :
    Fn Tryz.prog 14 #[.agg cs] F (fun r B => r = .bool true ∧ B = F) := by
  obtain ⟨e, h1, h2, h3, h4, h5, h6, h7⟩ := h
  have ecs : cs = t.cells.toArray := by rw [← e]
  rw [ecs, img_cells h5.1]
  by_cases c : t.sz < 0 ∨ 4194368 < t.sz
  · exact SuperReads_n1 F h1 h2 (by omega) h6 h4 c
  · obtain ⟨n, hn⟩ : ∃ n : Nat, t.sz = (n : Int) := ⟨t.sz.toNat, by omega⟩
    rw [hn]
    by_cases hf : fitsB (n : Nat) = true
    · have hf' : 64 ≤ (n : Int) ∧ (n : Int) ≤ 4194304 ∧ (n : Int) % 64 = 0 := by unfold fitsB at hf; simpa using hf
      exact SuperReads_ok F h1 h2 (by omega) h6 h4 (k := n / 64) (by omega) (by omega) (by omega)
    · exact SuperReads_n2 F h1 h2 (by omega) h6 h4 (by omega) (by simpa using hf)
end Go.Vl

set_option linter.unusedVariables false
set_option linter.unusedSimpArgs false
namespace Go.Vl
open Go Go.Proofs
theorem parts_nil : Parts [] [] = emp := rfl
theorem ctS_out {s : DevS} {q : Nat} (h : ¬ q < s.ls.length) : ctS q s = [] := by
  unfold ctS
  have : s.ls.getD q ⟨[], 0⟩ = ⟨[], 0⟩ := by simp [List.getD, List.getElem?_eq_none (show s.ls.length ≤ q by omega)]
  rw [this]; rfl
/-- Rows that are read. -/
structure RwF (A : SP) (a : Option Addr) (vs : List Value) (ls : List (List Nat)) : Prop where
  len : vs.length = ls.length
  rd : Rs A a vs
  row : ∀ i (h : i < ls.length), ∃ b c, vs[i]? = some (.slice b ls[i].length c) ∧ Rs A b (bys ls[i])
theorem RwF.left {A X : SP} {a : Option Addr} {vs : List Value} {ls : List (List Nat)} (h : RwF A a vs ls) : RwF (A * X) a vs ls := ⟨h.len, h.rd.left, fun i hi => let ⟨b, c, e, hr⟩ := h.row i hi; ⟨b, c, e, hr.left⟩⟩
/-- What a list of owned rows reads. -/
theorem rwF_parts {F : SP} {a : Option Addr} {m c : Nat} {vs : List Value} {ls : List (List Nat)} {g : Gh} {w : World} (h : sat g w (F * Parts vs ls * Sl 1 (.slice a m c) m vs)) : RwF (F * Parts vs ls * Sl 1 (.slice a m c) m vs) a vs ls := by
  have hl := parts_len h.left
  refine ⟨hl, rs_sl, fun i hi => ?_⟩
  obtain ⟨R, e1, _⟩ := parts_row hl hi
  have e : F * Parts vs ls * Sl 1 (.slice a m c) m vs = F * R * Sl 1 (.slice a m c) m vs * Sl 1 (vs[i]'(by omega)) ls[i].length (bys ls[i]) := by rw [e1, star_swap]
  obtain ⟨b, cb, e2, _, _, e5⟩ := sl_have' e h
  exact ⟨b, cb, by rw [List.getElem?_eq_getElem (by omega), e2], rs_rd e5⟩
attribute [local irreducible] Sl pt ro imgS Parts
theorem EqRows_c {A : SP} {a1 a2 : Option Addr} {c1 c2 n m : Nat} {vs ws : List Value} {ls ms : List (List Nat)} (h1 : RwF A a1 vs ls) (h2 : RwF A a2 ws ms) (hn : ls.length = n) (hm : ms.length = m) (hnl : n ≤ 4611686018427387904) (hml : m ≤ 4611686018427387904) (hl1 : ∀ l ∈ ls, l.length ≤ 4611686018427387904) (hl2 : ∀ l ∈ ms, l.length ≤ 4611686018427387904) :
    Fn Tryz.prog 56 #[.slice a1 n c1, .slice a2 m c2] (A) (fun v B => v = .bool (decide (ls = ms)) ∧ A = B) := by
  refine fn_enterW (args := [.slice a1 n c1, .slice a2 m c2]) Tryz.func56 rfl Tryz.ntmps56 (by simp) ?_; refine sr ?_; refine tla ?_; refine nq ?_; refine tc_seq ?_; refine sr ?_; refine tlm ?_; refine tv (o_len Tryz.underlying88 rfl) ?_; refine tlm ?_; refine tv (o_len Tryz.underlying88 rfl) ?_; refine tv (o_nei rfl rfl) ?_; refine nq ?_; refine tc_cond rfl (fun h => ?_) (fun h => ?_)
  · try simp only [lv1, lv2, lv3, lv4, lv5, lv6, Bool.not_true, Bool.not_false] at h
    refine sr ?_; refine tla ?_; refine nq ?_; refine tc_ret ?_; refine q_then_r ?_; refine ⟨.bool false, _, res1 rfl rfl, ?_, (by rw [decide_eq_false]; intro e; subst e; omega), rfl⟩; exact Dr.sat (by repeat (first | with_reducible exact dr_refl | apply dr_keep | apply dr_drop))
  · try simp only [lv1, lv2, lv3, lv4, lv5, lv6, Bool.not_true, Bool.not_false] at h
    refine tc_skip ?_; refine q_then_n ?_; refine tc_seq ?_; refine sr ?_; refine tla ?_; refine nq ?_; refine tc_block ?_; refine tc_loop (fun kk ρ BB => ∃ (i : Nat), (i ≤ n) ∧ (ls.take i = ms.take i) ∧ kk = n - i ∧ ρ 5 = .int .i64 (i : Nat) ∧ ρ 0 = .slice a1 n c1 ∧ ρ 1 = .slice a2 m c2 ∧ BB = A) (m := n - (0)) ?_ ?_
    · exact ⟨0, by omega, rfl, rfl, rfl, rfl, rfl, rfl⟩
    · intro k ρ B hI
      obtain ⟨i, hp0, hp1, hkk1, hE5, hE0, hE1, hBA⟩ := hI
      obtain rfl := hBA.symm
      refine tc_env (d := 5) hE5 ?_; refine tc_env (d := 0) hE0 ?_; refine tc_env (d := 1) hE1 ?_
      clear hE5 hE0 hE1
      refine tc_seq ?_; refine sr ?_; refine tlm ?_; refine tlm ?_; refine tv (o_len Tryz.underlying88 rfl) ?_; refine tv (o_lss rfl rfl) ?_; refine nq ?_; refine tc_cond rfl (fun h => ?_) (fun h => ?_)
      · have hi : i < ls.length := by simp at h; omega
        have hj : i < ms.length := by omega
        obtain ⟨b1, k1, g1, r1⟩ := h1.row i hi
        obtain ⟨b2, k2, g2, r2⟩ := h2.row i hj
        have q1 := hl1 _ (List.getElem_mem hi)
        have q2 := hl2 _ (List.getElem_mem hj)
        have v1 := h1.len
        have v2 := h2.len
        refine tc_skip ?_; refine q_then_n ?_; refine tc_seq ?_; refine tc_block ?_; refine tc_seq ?_; refine tc_regq mo (by kernel_rfl) ?_; refine ql_v rfl (o_move (by conv => lhs; whnf)) ?_; refine ql_v rfl (o_move (by conv => lhs; whnf)) ?_; refine ql_v rfl (o_ixP1 Tryz.underlying88 sz32 rfl rfl (by omega) (nn_rs h1.rd (fun _ => by omega))) ?_; refine ql_v rfl (o_ldP p32 rfl h1.rd g1) ?_; refine ql_v rfl (o_move (by conv => lhs; whnf)) ?_; refine ql_v rfl (o_move (by conv => lhs; whnf)) ?_; refine ql_v rfl (o_ixP1 Tryz.underlying88 sz32 rfl rfl (by omega) (nn_rs h2.rd (fun _ => by omega))) ?_; refine ql_v rfl (o_ldP p32 rfl h2.rd g2) ?_; refine ql_c rfl (fun w => exec_call bd53 rfl) (EqBytes_c (xs := ls[i]) (ys := ms[i]) (h1 := r1) (h2 := r2)) ?_; refine ql_v rfl (o_not rfl) ?_; refine ql_nil ?_; refine q_then_n ?_; refine tc_cond rfl (fun h => ?_) (fun h => ?_)
        · try simp only [lv1, lv2, lv3, lv4, lv5, lv6, Bool.not_true, Bool.not_false] at h
          refine sr ?_; refine tla ?_; refine nq ?_; refine tc_ret ?_; refine q_block_r (q_then_r (q_then_r (q_block_r (q_then_r ?_)))); refine ⟨.bool false, _, res1 rfl rfl, ?_, (by rw [decide_eq_false]; intro e; subst e; simp at h), rfl⟩; exact Dr.sat (by repeat (first | with_reducible exact dr_refl | apply dr_keep | apply dr_drop))
        · have heq : ls[i] = ms[i] := by simpa using h
          refine tc_skip ?_; refine q_block_n (q_then_n ?_); refine tc_reg ?_; refine tlm ?_; refine tv (by first | exact o_addI rfl rfl (by omega) | exact o_add rfl rfl) ?_; refine tla ?_; refine nq ?_; exact ⟨_, by omega, i + 1, by omega, by rw [List.take_succ_eq_append_getElem hi, List.take_succ_eq_append_getElem hj, hp1, heq], rfl, rfl, rfl, rfl, rfl⟩
      · try simp only [lv1, lv2, lv3, lv4, lv5, lv6, Bool.not_true, Bool.not_false] at h
        refine tc_exit ?_; refine q_then_e (q_then_e (q_block_x (q_then_n ?_))); refine sr ?_; refine tla ?_; refine nq ?_; refine tc_ret ?_; refine ⟨.bool true, _, res1 rfl rfl, ?_, (by rw [decide_eq_true]; have e : i = n := (by simp at h; omega); rw [List.take_of_length_le (by omega), List.take_of_length_le (by omega)] at hp1; exact hp1), rfl⟩; exact Dr.sat (by repeat (first | with_reducible exact dr_refl | apply dr_keep | apply dr_drop))
theorem Contents_any {A R : SP} {C : SP → SP} {d : Nat} {s : DevS} (hc : Ct A (Dev d s) R C := by repeat (first | with_reducible exact ct_here | apply ct_left)) {q : Nat} (hq : q ≤ 4611686018427387904 := by omega) : Fn Tryz.prog 57 #[.pointer (some ⟨d, 0, none⟩), .int .i64 (q : Nat)] A (fun r B => ∃ a c vs, r = .slice a (ctS q s).length c ∧ (ctS q s).length ≤ c ∧ B = A * Parts vs (ctS q s) * Sl 1 (.slice a (ctS q s).length c) (ctS q s).length vs) := by
  by_cases h : q < s.ls.length
  · exact Contents_c hc h
  · have e : ctS q s = [] := ctS_out h
    intro g w hs
    refine ((fun hc h => ContentsNo_c hc (hp := by omega) (hno := h)) hc (by omega) g w hs).mono ?_; rintro x w' ⟨v, B, rfl, ⟨rfl, rfl⟩, hB⟩; refine ⟨_, A * Parts [] [] * Sl 1 (.slice none 0 0) 0 [], rfl, ⟨none, 0, [], by rw [e]; rfl, by rw [e]; exact Nat.le_refl _, by rw [e]; rfl⟩, ?_⟩
    rw [parts_nil, star_emp]; exact sl_nil hB
theorem rContents_any {A R : SP} {C : SP → SP} {d : Nat} {s : DevS} (hc : Ct A (RDev d s) R C := by repeat (first | with_reducible exact ct_here | apply ct_left)) {q : Nat} (hq : q ≤ 4611686018427387904 := by omega) : Fn Tryz.prog 58 #[.pointer (some ⟨d, 0, none⟩), .int .i64 (q : Nat)] A (fun r B => ∃ a c vs, r = .slice a (ctS q s).length c ∧ (ctS q s).length ≤ c ∧ B = A * Parts vs (ctS q s) * Sl 1 (.slice a (ctS q s).length c) (ctS q s).length vs) := by
  by_cases h : q < s.ls.length
  · exact rContents_c hc h
  · have e : ctS q s = [] := ctS_out h
    intro g w hs
    refine ((fun hc h => rContentsNo_c hc (hno := h)) hc (by omega) g w hs).mono ?_; rintro x w' ⟨v, B, rfl, ⟨rfl, rfl⟩, hB⟩; refine ⟨_, A * Parts [] [] * Sl 1 (.slice none 0 0) 0 [], rfl, ⟨none, 0, [], by rw [e]; rfl, by rw [e]; exact Nat.le_refl _, by rw [e]; rfl⟩, ?_⟩
    rw [parts_nil, star_emp]; exact sl_nil hB
end Go.Vl
