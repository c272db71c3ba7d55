/- What the row rests on, part 4: a calculus of assertions, walks of functions over it, and plain laws. Conditions: none. -/
import Derived.Deep.QuietTactic
import Derived.BigQuiet
import Derived.WalkKit
import Derived.Test.YtndfopmdkcnkgaaGreatProg
import Derived.OrdersHeld
import Derived.Laws.BytesArg
import Derived.RangeFuncRecord
import Derived.TacticsIn
import Derived.Deep.Slices
import Derived.OpenShut
import Derived.ChangeArms
import Derived.SizedLaws
import Derived.ChangeSame
import Derived.Test.YtndfopmdkcnkgaaGreatRows
import Derived.Sort.QuietThIn
import Derived.Test.YtndfopmdkcnkgaaGreatMg3
set_option linter.unusedVariables false
set_option linter.unusedSimpArgs false
namespace Go.Vl
open Go Go.Proofs
theorem stW_min {p n : Nat} {b : List Nat} {s : DevS} (h : n = min b.length (8 - p % 8)) : stW p (b.take n) s = stW p b s := by
  rcases Nat.le_total b.length (8 - p % 8) with h1 | h1
  · exact stW_take' oqz
  · exact stW_take oqz
theorem mpF_wf {i : Nat} {s : DevS} (h : WfD s) : WfD { s with ls := mp fenceL i s.ls } := ⟨by simp only [mp_length]; exact h.pos, by simp only [mp_length]; exact h.top, fun l hl => by
  obtain ⟨j, hj, rfl⟩ := List.mem_iff_getElem.1 hl
  simp only [mp, List.getElem_mapIdx]
  rw [mp_length] at hj
  split
  · exact fenceL_wf (h.line _ (List.getElem_mem _))
  · exact h.line _ (List.getElem_mem _), h.arms, h.after, h.keeps⟩
theorem acs_at0 {kvs : List Value} {ars : List (Int × List Int)} {i : Nat} (h : kvs.length = ars.length) (hi : i < ars.length) : (acs kvs ars)[i * 2 + 0]? = some (.int .i64 ars[i].1) := by
  have e := acs_at h hi
  have := congrArg (fun l => l[0]?) e
  simpa [List.getElem?_take, List.getElem?_drop] using this
theorem acs_at1 {kvs : List Value} {ars : List (Int × List Int)} {i : Nat} (h : kvs.length = ars.length) (hi : i < ars.length) : (acs kvs ars)[i * 2 + 1]? = some (kvs[i]'oqz) := by
  have e := acs_at h hi
  have := congrArg (fun l => l[1]?) e
  simpa [List.getElem?_take, List.getElem?_drop] using this
theorem rarm_back {F J : SP} {r : Nat} {lv : Value} {rls : List RL} {kvs : List Value} {v av : Value} {x : Int × List Int} {s : DevS} (hw : WfD { s with arms := s.arms ++ [x] }) (hmap : rls.map RL.l = s.ls) (hkv : kvs.length = s.arms.length) {g : Gh} {w : World}
    (hs : sat g w (F * KeepsR kvs s.arms * Bs rlR rls * Sl 2 lv s.ls.length (rls.flatMap rcl) * pt r (cl (rdcs lv s av) 55) * Sl 1 v x.2.length (ints x.2) * Sl 2 av (s.arms.length + 1) (acs kvs s.arms ++ [.int .i64 x.1, v]) * J)) : sat g w (F * RDev r { s with arms := s.arms ++ [x] }) := by
  have h1 := hs.left
  rw [star_swap] at h1
  have h2 := sl_share h1
  refine rdev_back (lv := lv) (rls := rls) (av := av) (kvs := kvs ++ [v]) hw hmap (by simp [hkv]) g w ?_; refine h2.perm ?_
  unfold RDevC ArmsR
  simp only [acs_snoc hkv, keepsR_snoc hkv, List.length_append, List.length_singleton]
  rw [show rdcs lv { s with arms := s.arms ++ [x] } av = rdcs lv s av from rfl]
  ac_rfl
attribute [local irreducible] Sl pt ro imgS
set_option maxRecDepth 20000 in
set_option maxHeartbeats 1000000 in
theorem rStoreW_f (F : SP) {a : Option Addr} {c m r : Nat} {p0 : Int} {s : DevS} {xs : List Nat} (hr : Rs F a (bys xs)) (hm : xs.length = m) (hmc : m ≤ c) (hb : ∀ x ∈ xs, x < 256) (hml : m ≤ 140737488351232) (hp : -9223372036854775808 ≤ p0 ∧ p0 ≤ 9223372036854775807) (hroom : rdy s.ls.length s.off p0 m = 0 → Room m s) :
    Fn Tryz.prog 37 #[.pointer (some ⟨r, 0, none⟩), .int .i64 p0, .slice a m c] (F * RDev r s) (fun v B => v = .int .i64 (sto p0 xs s).1 ∧ B = F * RDev r (sto p0 xs s).2) := by
  refine fn_enterW (args := [.pointer (some ⟨r, 0, none⟩), .int .i64 p0, .slice a m c]) Tryz.func37 rfl Tryz.ntmps37 (by simp) ?_; refine tc_rdev fun hw lv rls av kvs hmap hkv => ?_
  have hpos := hw.pos
  have htop := hw.top
  refine tc_have (fun _ _ h => rdevR_of hw hmap h) fun hR => ?_
  obtain ⟨bl, ol, cl_, rfl, hlc, hll⟩ := hR.lv
  have hlen := hR.len
  
  refine sr ?_; refine tla ?_; refine nq ?_; refine tc_seq ?_; refine sr ?_; refine tlm ?_; refine tv (o_nilCheck rfl) ?_; refine tv (o_fieldAddr (o := 5) Tryz.underlying55 rfl rfl sz4 rfl) ?_; refine tv (o_load p4 rfl (by repeat (first | exact rdevC_r | apply has_left)) rfl) ?_; refine nq ?_; refine tc_cond rfl (fun h => ?_) (fun h => ?_)
  · try simp only [lv1, lv2, lv3, lv4, lv5, lv6, Bool.not_true, Bool.not_false] at h
    refine sr ?_; refine tla ?_; refine nq ?_; refine tc_ret ?_; refine q_then_r ?_
    have e : sto p0 xs s = (5, s) := by unfold sto rdy; rw [h]; rfl
    rw [e]
    exact ⟨.int .i64 5, F * RDev r s, res1 rfl rfl, rdev_back hw hmap hkv, rfl, rfl⟩
  · have hoff : s.off = false := by simpa using h
    have e5 : rdy s.ls.length s.off p0 m = rdy s.ls.length false p0 m := by rw [hoff]
    refine tc_skip ?_; refine q_then_n ?_; refine tc_seq ?_; refine sr ?_; refine tlm ?_; refine tlm ?_; refine tlm ?_; refine tv (o_len Tryz.underlying22 rfl) ?_; refine tl_c rfl (o_call bd78 rfl (rinside_f _ hR hp oqz)) ?_; rintro _ _ ⟨rfl, rfl⟩; refine tv (o_not rfl) ?_; refine nq ?_; refine tc_cond rfl (fun h => ?_) (fun h => ?_)
    · have hz : rdy s.ls.length s.off p0 m ≠ 0 := by rw [e5]; simpa using h
      have e : sto p0 xs s = (6, s) := by unfold sto; rw [hm, if_pos hz]; rw [e5] at hz ⊢; unfold rdy at hz ⊢; simp at hz ⊢; exact hz
      refine sr ?_; refine tla ?_; refine nq ?_; refine tc_ret ?_; refine q_then_r ?_
      rw [e]
      exact ⟨.int .i64 6, F * RDev r s, res1 rfl rfl, rdev_back hw hmap hkv, rfl, rfl⟩
    · have hz : rdy s.ls.length s.off p0 m = 0 := by rw [e5]; simpa using h
      obtain ⟨q, rfl⟩ := Int.eq_ofNat_of_zero_le (rdy0 hz).2.1
      have hr0 := rdy0 hz
      have hsto : sto (q : Int) xs s = storeF xs.length q xs s := by unfold sto; rw [hm, if_neg oqz]; rfl
      rw [hsto]
      refine tc_pre (rdev_back hw hmap hkv) ?_; refine tc_skip ?_; refine q_then_n ?_; refine sr ?_; refine tla ?_; refine nq ?_; refine tc_seq ?_; refine tc_block ?_; refine tc_loop (fun kk ρ BB => ∃ (k : Nat) (s1 : DevS), (k ≤ m) ∧ (storeF (xs.drop k).length (q + k) (xs.drop k) s1 = storeF xs.length q xs s) ∧ (Room (m - k) s1) ∧ (s1.ls.length = s.ls.length) ∧ kk = m - k ∧ ρ 7 = .int .i64 (k : Nat) ∧ ρ 0 = .pointer (some ⟨r, 0, none⟩) ∧ ρ 1 = .int .i64 (q : Nat) ∧ ρ 2 = .slice a m c ∧ BB = F * RDev r s1) (m := m - (0)) ?_ ?_
      · exact ⟨0, s, by omega, rfl, hroom hz, rfl, rfl, rfl, rfl, rfl, rfl, rfl⟩
      · intro k ρ B hI
        obtain ⟨k, s1, hp0, hp1, hp2, hp3, hkk1, hE7, hE0, hE1, hE2, rfl⟩ := hI
        refine tc_env (d := 7) hE7 ?_; refine tc_env (d := 0) hE0 ?_; refine tc_env (d := 1) hE1 ?_; refine tc_env (d := 2) hE2 ?_
        clear hE7 hE0 hE1 hE2
        refine tc_seq ?_; refine sr ?_; refine tlm ?_; refine tlm ?_; refine tv (o_len Tryz.underlying22 rfl) ?_; refine tv (o_lss rfl rfl) ?_; refine nq ?_; refine tc_cond rfl (fun h => ?_) (fun h => ?_)
        · have hk : k < m := by simp at h; omega
          have hb0 : xs.drop k ≠ [] := by intro e; have := congrArg List.length e; rw [List.length_drop] at this; simp at this; omega
          have hdl : (xs.drop k).length = m - k := by rw [List.length_drop]; omega
          refine tc_skip ?_; refine q_then_n ?_; refine tc_block ?_; refine sr ?_; refine tlm ?_; refine tlm ?_; refine tv adqz ?_; refine tl_env (d := 26) (v := .int .i64 ((q + k : Nat) : Int)) (rfl) ?_; refine tv (o_remN (b := 8) rfl rfl oqz) ?_; refine tv (by first | exact o_subI rfl rfl oqz | exact o_sub rfl rfl) ?_; refine tl_env (d := 28) (v := .int .i64 ((8 - (q + k) % 8 : Nat) : Int)) (by show Value.int .i64 _ = _; congr 1; omega) ?_; refine tla ?_; refine nq ?_; refine tc_seq ?_; refine sr ?_; refine tlm ?_; refine tlm ?_; refine tv (o_len Tryz.underlying22 rfl) ?_; refine tlm ?_; refine tv (by first | exact o_subI rfl rfl oqz | exact o_sub rfl rfl) ?_; refine tv (o_gtr rfl rfl) ?_; refine nq ?_; refine tc_cut (fun ρ BB => ρ 8 = .int .i64 ((min (m - k) (8 - (q + k) % 8) : Nat) : Int) ∧ ρ 0 = .pointer (some ⟨r, 0, none⟩) ∧ ρ 1 = .int .i64 (q : Nat) ∧ ρ 2 = .slice a m c ∧ ρ 7 = .int .i64 (k : Nat) ∧ BB = F * RDev r s1) ?_ ?_
          · skip
            refine tc_cond rfl (fun h => ?_) (fun h => ?_)
            · try simp only [lv1, lv2, lv3, lv4, lv5, lv6, Bool.not_true, Bool.not_false] at h
              refine tc_reg ?_; refine tlm ?_; refine tv (o_len Tryz.underlying22 rfl) ?_; refine tlm ?_; refine tv (by first | exact o_subI rfl rfl oqz | exact o_sub rfl rfl) ?_; refine tla ?_; refine tl_nil ?_; exact ⟨(by (try simp at h); show Value.int .i64 _ = Value.int .i64 _; congr 1; omega), rfl, rfl, rfl, rfl, rfl⟩
            · try simp only [lv1, lv2, lv3, lv4, lv5, lv6, Bool.not_true, Bool.not_false] at h
              refine tc_skip ?_; exact ⟨(by (try simp at h); show Value.int .i64 _ = Value.int .i64 _; congr 1; omega), rfl, rfl, rfl, rfl, rfl⟩
          · intro ρ B hI
            obtain ⟨hE8, hE0, hE1, hE2, hE7, rfl⟩ := hI
            refine q_then_n ?_; refine tc_env (d := 8) hE8 ?_; refine tc_env (d := 0) hE0 ?_; refine tc_env (d := 1) hE1 ?_; refine tc_env (d := 2) hE2 ?_; refine tc_env (d := 7) hE7 ?_
            clear hE8 hE0 hE1 hE2 hE7
            refine sr ?_; refine tlm ?_; refine tlm ?_; refine tlm ?_; refine tv adqz ?_; refine tl_env (d := 42) (v := .int .i64 ((q + k : Nat) : Int)) (rfl) ?_; refine tlm ?_; refine tlm ?_; refine tlm ?_; refine tlm ?_; refine tv adqz ?_; refine tl_env (d := 47) (v := .int .i64 ((k + min (m - k) (8 - (q + k) % 8) : Nat) : Int)) (rfl) ?_; refine tv (o_slice (l := k) (h := k + min (m - k) (8 - (q + k) % 8)) Tryz.underlying22 sz5 rfl (bnd_nat rfl) (bnd_nat rfl) oqz oqz) ?_; refine tl_env (d := 48) (v := .slice (cutAddr a c k 1) (min (m - k) (8 - (q + k) % 8)) (c - k)) (by show Value.slice _ (k + min (m - k) (8 - (q + k) % 8) - k) _ = _; rw [Nat.add_sub_cancel_left]) ?_
            have hrm1 : Room 1 s1 := fun l hl => by have := hp2 l hl; omega
            refine tl_c rfl (o_call bd79 rfl (rword_c (p := q + k) (xs := ((xs.drop k).take (min (m - k) (8 - (q + k) % 8)))) (hr := rs_mid hr oqz) (hm := by rw [List.length_take, hdl]; omega) (hx := by omega) (hb := fun x hx => hb x (List.mem_of_mem_drop (List.mem_of_mem_take hx))) (hi := by omega))) ?_; rintro _ _ ⟨rfl, rfl⟩
            rw [stW_min (p := q + k) (b := xs.drop k) (by rw [hdl])]
            refine tla ?_; refine nq ?_; refine tc_seq ?_; refine sr ?_; refine tlm ?_; refine tv (o_nei rfl rfl) ?_; refine nq ?_; refine tc_cond rfl (fun h => ?_) (fun h => ?_)
            · have h : doneE (layS (q + k - (q + k) % 8) (nm (stW (q + k) (xs.drop k) s1)) s1) ≠ 0 := by simpa using h
              have e : storeF xs.length q xs s = (doneE (layS (q + k - (q + k) % 8) (nm (stW (q + k) (xs.drop k) s1)) s1), doneS (layS (q + k - (q + k) % 8) (nm (stW (q + k) (xs.drop k) s1)) s1)) := by rw [← hp1, storeF_step hb0, if_pos h]
              refine sr ?_; refine tlm ?_; refine tla ?_; refine nq ?_; refine tc_ret ?_; refine q_then_r (q_block_r (q_then_r (q_block_r (q_then_r ?_))))
              first
              | (rw [e]; exact ⟨.int .i64 (doneE (layS (q + k - (q + k) % 8) (nm (stW (q + k) (xs.drop k) s1)) s1)), F * RDev r (doneS (layS (q + k - (q + k) % 8) (nm (stW (q + k) (xs.drop k) s1)) s1)), res1 rfl rfl, Dr.sat drqz, rfl, rfl⟩)
              | (obtain rfl : k = m := by omega
                 have e : storeF xs.length q xs s = (0, s1) := by rw [← hp1, List.drop_of_length_le oqz, storeF_nil]
                 rw [e]; exact ⟨.int .i64 0, F * RDev r s1, res1 rfl rfl, fun _ _ h => h, rfl, rfl⟩)
            · have h : doneE (layS (q + k - (q + k) % 8) (nm (stW (q + k) (xs.drop k) s1)) s1) = 0 := by simpa using h
              obtain ⟨hd1, hd2⟩ := doneE_ok h
              have hdd : (xs.drop k).drop (8 - (q + k) % 8) = xs.drop (k + min (m - k) (8 - (q + k) % 8)) := by
                rw [List.drop_drop]
                rcases Nat.le_total (m - k) (8 - (q + k) % 8) with h | h
                · rw [Nat.min_eq_left h, List.drop_of_length_le oqz, List.drop_of_length_le oqz]
                · rw [Nat.min_eq_right h]
              have hstep : storeF (xs.drop (k + min (m - k) (8 - (q + k) % 8))).length (q + (k + min (m - k) (8 - (q + k) % 8))) (xs.drop (k + min (m - k) (8 - (q + k) % 8))) (doneS (layS (q + k - (q + k) % 8) (nm (stW (q + k) (xs.drop k) s1)) s1)) = storeF xs.length q xs s := by
                rw [← hp1, storeF_step hb0, if_neg (by simpa using h), hdd, hdl, ← Nat.add_assoc]
              have hrm2 : Room (m - (k + min (m - k) (8 - (q + k) % 8))) (doneS (layS (q + k - (q + k) % 8) (nm (stW (q + k) (xs.drop k) s1)) s1)) := fun l hl => by
                rw [hd2] at hl
                have h1 : Room ((m - k - 1) + 1) s1 := fun l hl => by have := hp2 l hl; omega
                have := onLine_room (f := layL ((q + k - (q + k) % 8) % 64 / 8) (nm (stW (q + k) (xs.drop k) s1))) (i := (q + k - (q + k) % 8) / 64) h1 (fun l => by simp [layL]) l hl
                omega
              refine tc_skip ?_; refine q_then_n ?_; refine tc_reg ?_; refine tlm ?_; refine tlm ?_; refine tv adqz ?_; refine tla ?_; refine tl_nil ?_; refine q_block_n (q_then_n ?_); exact ⟨_, by omega, k + min (m - k) (8 - (q + k) % 8), _, by omega, hstep, hrm2, by rw [hd2, layS_len]; exact hp3, rfl, rfl, rfl, rfl, rfl, rfl⟩
        · try simp only [lv1, lv2, lv3, lv4, lv5, lv6, Bool.not_true, Bool.not_false] at h
          refine tc_exit ?_; refine q_then_e (q_then_e (q_block_x (q_then_n ?_))); refine sr ?_; refine tla ?_; refine nq ?_; refine tc_ret ?_
          first
          | (rw [e]; exact ⟨.int .i64 (doneE (layS (q + k - (q + k) % 8) (nm (stW (q + k) (xs.drop k) s1)) s1)), F * RDev r (doneS (layS (q + k - (q + k) % 8) (nm (stW (q + k) (xs.drop k) s1)) s1)), res1 rfl rfl, Dr.sat drqz, rfl, rfl⟩)
          | (obtain rfl : k = m := by omega
             have e : storeF xs.length q xs s = (0, s1) := by rw [← hp1, List.drop_of_length_le oqz, storeF_nil]
             rw [e]; exact ⟨.int .i64 0, F * RDev r s1, res1 rfl rfl, fun _ _ h => h, rfl, rfl⟩)
set_option maxRecDepth 20000 in
set_option maxHeartbeats 1000000 in
theorem rFence_f (F : SP) {r : Nat} {s : DevS} :
    Fn Tryz.prog 41 #[.pointer (some ⟨r, 0, none⟩)] (F * RDev r s) (fun v B => v = .int .i64 (fe s).1 ∧ B = F * RDev r (fe s).2) := by
  refine fn_enterW (args := [.pointer (some ⟨r, 0, none⟩)]) Tryz.func41 rfl Tryz.ntmps41 (by simp) ?_; refine tc_rdev fun hw lv rls av kvs hmap hkv => ?_
  have hpos := hw.pos
  have htop := hw.top
  refine tc_have (fun _ _ h => rdevR_of hw hmap h) fun hR => ?_
  obtain ⟨bl, ol, cl_, rfl, hlc, hll⟩ := hR.lv
  have hlen := hR.len
  
  refine sr ?_; refine tla ?_; refine nq ?_; refine tc_seq ?_; refine sr ?_; refine tlm ?_; refine tv (o_nilCheck rfl) ?_; refine tv (o_fieldAddr (o := 5) Tryz.underlying55 rfl rfl sz4 rfl) ?_; refine tv (o_load p4 rfl (by repeat (first | exact rdevC_r | apply has_left)) rfl) ?_; refine nq ?_; refine tc_cond rfl (fun h => ?_) (fun h => ?_)
  · try simp only [lv1, lv2, lv3, lv4, lv5, lv6, Bool.not_true, Bool.not_false] at h
    refine sr ?_; refine tla ?_; refine nq ?_; refine tc_ret ?_; refine q_then_r ?_
    have e : fe s = (5, s) := by unfold fe; rw [if_pos h]
    rw [e]
    exact ⟨.int .i64 5, F * RDev r s, res1 rfl rfl, rdev_back hw hmap hkv, rfl, rfl⟩
  · have hoff : s.off = false := by simpa using h
    have e : fe s = (doneE (fenceS s), doneS (fenceS s)) := by unfold fe; rw [if_neg (by rw [hoff]; decide)]
    rw [e]
    refine tc_skip ?_; refine q_then_n ?_; refine tc_seq ?_; refine sr ?_; refine tla ?_; refine nq ?_; refine tc_block ?_; refine tc_loop (fun kk ρ BB => ∃ (i : Nat) (rls1 : List RL), (i ≤ s.ls.length) ∧ (rls1.map RL.l = mp fenceL i s.ls) ∧ kk = s.ls.length - i ∧ ρ 3 = .int .i64 (i : Nat) ∧ ρ 0 = .pointer (some ⟨r, 0, none⟩) ∧ BB = F * RDevC r (.slice (some ⟨bl, ol, none⟩) s.ls.length cl_) rls1 av kvs { s with ls := mp fenceL i s.ls }) (m := s.ls.length - (0)) ?_ ?_
    · exact ⟨0, rls, by omega, by rw [mp_zero]; exact hmap, rfl, rfl, rfl, by rw [mp_zero]⟩
    · intro k ρ B hI
      obtain ⟨i, rls1, hp0, hp1, hkk1, hE3, hE0, rfl⟩ := hI
      refine tc_env (d := 3) hE3 ?_; refine tc_env (d := 0) hE0 ?_
      clear hE3 hE0
      refine tc_seq ?_; refine sr ?_; refine tlm ?_; refine tlm ?_; refine tv (o_nilCheck rfl) ?_; refine tv (o_fieldAddr (o := 1) Tryz.underlying55 rfl rfl sz52 rfl) ?_; refine tv (o_load p52 rfl (by repeat (first | exact rdevC_r | apply has_left)) rfl) ?_; refine tv (o_len Tryz.underlying52 rfl) ?_; refine tv (o_lss rfl rfl) ?_; refine nq ?_; refine tc_cond rfl (fun h => ?_) (fun h => ?_)
      · have hi : i < s.ls.length := by simp at h; omega
        have hgl : (mp fenceL i s.ls).length = s.ls.length := mp_length _ _ _
        refine tc_have (fun _ _ h => rdevR_of (mpF_wf hw) hp1 h) fun hR1 => ?_
        have hir : i < rls1.length := by rw [hR1.len, hgl]; exact hi
        obtain ⟨ba, oa, ca, g1, hca, har⟩ := hR1.allC hir
        have hll1 := hR1.lvR
        have hsm := hR1.small hir
        have hps := hR1.pos hir
        have g2 := rcl_at1 hir
        have hwl := (mpF_wf (i := i) hw).line _ (List.getElem_mem (show i < (mp fenceL i s.ls).length by omega))
        have hmk := hR1.mark hir (show i < (mp fenceL i s.ls).length by omega)
        have hrl := hR1.rows hir (show i < (mp fenceL i s.ls).length by omega)
        have hlo := hwl.lo
        have hhi := hwl.hi
        have hat := mp_at fenceL hi
        have hla := hR1.at_ _ hir (show i < (mp fenceL i s.ls).length by omega)
        simp only [hat] at hmk hrl hlo hhi hla
        rw [← hmk] at hlo hhi
        rw [← hrl] at hhi
        refine tc_skip ?_; refine q_then_n ?_; refine tc_seq ?_; refine tc_block ?_; refine sr ?_; refine tlm ?_; refine tv (o_nilCheck rfl) ?_; refine tv (o_fieldAddr (o := 1) Tryz.underlying55 rfl rfl sz52 rfl) ?_; refine tv (o_load p52 rfl (by repeat (first | exact rdevC_r | apply has_left)) rfl) ?_; refine tlm ?_; refine tv (o_ixP Tryz.underlying52 sz77 rfl rfl sq1z sq0z) ?_; refine tv (o_faP (m := 0) (o := 1) Tryz.underlying77 rfl rfl sz3 rfl sq0z) ?_; refine tv (o_ldP p3 rfl hll1 g2) ?_; refine tv (o_geq rfl rfl) ?_; refine nq ?_; refine tc_cond rfl (fun h => ?_) (fun h => ?_)
        · have h0 : 0 ≤ rls1[i].mark := by simpa using h
          refine tc_seq ?_
          obtain ⟨R, hf1, hf2⟩ := rdevC_focus (r := r) (lv := (.slice (some ⟨bl, ol, none⟩) s.ls.length cl_)) (av := av) (kvs := kvs) (s := { s with ls := mp fenceL i s.ls }) (n := s.ls.length) hir hgl
          refine tc_eq (hf1 F) ?_
          have hv0 : rls1[i].v = .slice (some ⟨ba, oa, none⟩) rls1[i].rows.length ca := by rw [rcl_at0 hir] at g1; exact Option.some.inj g1
          rw [hv0]
          refine tc_regh (S := F * R * pt r (cl (rdcs (.slice (some ⟨bl, ol, none⟩) s.ls.length cl_) { s with ls := mp fenceL i s.ls } av) 55) * Bs rowR rls1[i].rows) mo drqz ?_
          show TH _ _ _ _ _ 25 #[ff,ff,ff,ff,ff,ff,ff,ff,ff,ff,ff,ff,ff,ff,ff,ff,ff,ff,ff,ff,ff,ff,ff,ff,ff] _ _
          refine th_take (i := 0) (listed' := #[tt,ff,ff,ff,ff,ff,ff,ff,ff,ff,ff,ff,ff,ff,ff,ff,ff,ff,ff,ff,ff,ff,ff,ff,ff]) rfl kqz kqz kqz rfl rfl (o_move (by conv => lhs; whnf)) ?_; refine th_take (i := 1) (listed' := #[tt,tt,ff,ff,ff,ff,ff,ff,ff,ff,ff,ff,ff,ff,ff,ff,ff,ff,ff,ff,ff,ff,ff,ff,ff]) rfl kqz kqz kqz rfl rfl (o_nilCheck rfl) ?_; refine th_take (i := 2) (listed' := #[tt,tt,tt,ff,ff,ff,ff,ff,ff,ff,ff,ff,ff,ff,ff,ff,ff,ff,ff,ff,ff,ff,ff,ff,ff]) rfl kqz kqz kqz rfl rfl (o_fieldAddr (o := 1) Tryz.underlying55 rfl rfl sz52 rfl) ?_; refine th_take (i := 3) (listed' := #[tt,tt,tt,tt,ff,ff,ff,ff,ff,ff,ff,ff,ff,ff,ff,ff,ff,ff,ff,ff,ff,ff,ff,ff,ff]) rfl kqz kqz kqz rfl rfl (by first | exact o_load p52 rfl hsqz rfl | exact o_loadC p52 rfl (by assumption)) ?_; refine th_take (i := 4) (listed' := #[tt,tt,tt,tt,tt,ff,ff,ff,ff,ff,ff,ff,ff,ff,ff,ff,ff,ff,ff,ff,ff,ff,ff,ff,ff]) rfl kqz kqz kqz rfl rfl (o_move (by conv => lhs; whnf)) ?_; refine th_take (i := 5) (listed' := #[tt,tt,tt,tt,tt,tt,ff,ff,ff,ff,ff,ff,ff,ff,ff,ff,ff,ff,ff,ff,ff,ff,ff,ff,ff]) rfl kqz kqz kqz rfl rfl (o_move (by conv => lhs; whnf)) ?_; refine th_take (i := 6) (listed' := #[tt,tt,tt,tt,tt,tt,tt,ff,ff,ff,ff,ff,ff,ff,ff,ff,ff,ff,ff,ff,ff,ff,ff,ff,ff]) rfl kqz kqz kqz rfl rfl (o_nilCheck rfl) ?_
          refine th_take (i := 7) (listed' := #[tt,tt,tt,tt,tt,tt,tt,tt,ff,ff,ff,ff,ff,ff,ff,ff,ff,ff,ff,ff,ff,ff,ff,ff,ff]) rfl kqz kqz kqz rfl rfl (o_fieldAddr (o := 1) Tryz.underlying55 rfl rfl sz52 rfl) ?_; refine th_take (i := 8) (listed' := #[tt,tt,tt,tt,tt,tt,tt,tt,tt,ff,ff,ff,ff,ff,ff,ff,ff,ff,ff,ff,ff,ff,ff,ff,ff]) rfl kqz kqz kqz rfl rfl (by first | exact o_load p52 rfl hsqz rfl | exact o_loadC p52 rfl (by assumption)) ?_; refine th_take (i := 9) (listed' := #[tt,tt,tt,tt,tt,tt,tt,tt,tt,tt,ff,ff,ff,ff,ff,ff,ff,ff,ff,ff,ff,ff,ff,ff,ff]) rfl kqz kqz kqz rfl rfl (o_move (by conv => lhs; whnf)) ?_; refine th_take (i := 10) (listed' := #[tt,tt,tt,tt,tt,tt,tt,tt,tt,tt,tt,ff,ff,ff,ff,ff,ff,ff,ff,ff,ff,ff,ff,ff,ff]) rfl kqz kqz kqz rfl rfl (o_ixP Tryz.underlying52 sz77 rfl rfl sq1z sq0z) ?_
          refine th_take (i := 11) (listed' := #[tt,tt,tt,tt,tt,tt,tt,tt,tt,tt,tt,tt,ff,ff,ff,ff,ff,ff,ff,ff,ff,ff,ff,ff,ff]) rfl kqz kqz kqz rfl rfl (o_faP (m := 0) (o := 0) Tryz.underlying77 rfl rfl sz75 rfl sq0z) ?_; refine th_take (i := 13) (listed' := #[tt,tt,tt,tt,tt,tt,tt,tt,tt,tt,tt,tt,ff,tt,ff,ff,ff,ff,ff,ff,ff,ff,ff,ff,ff]) rfl kqz kqz kqz rfl rfl (o_move (by conv => lhs; whnf)) ?_; refine th_take (i := 14) (listed' := #[tt,tt,tt,tt,tt,tt,tt,tt,tt,tt,tt,tt,ff,tt,tt,ff,ff,ff,ff,ff,ff,ff,ff,ff,ff]) rfl kqz kqz kqz rfl rfl (o_nilCheck rfl) ?_; refine th_take (i := 15) (listed' := #[tt,tt,tt,tt,tt,tt,tt,tt,tt,tt,tt,tt,ff,tt,tt,tt,ff,ff,ff,ff,ff,ff,ff,ff,ff]) rfl kqz kqz kqz rfl rfl (o_fieldAddr (o := 1) Tryz.underlying55 rfl rfl sz52 rfl) ?_; refine th_take (i := 16) (listed' := #[tt,tt,tt,tt,tt,tt,tt,tt,tt,tt,tt,tt,ff,tt,tt,tt,tt,ff,ff,ff,ff,ff,ff,ff,ff]) rfl kqz kqz kqz rfl rfl (by first | exact o_load p52 rfl hsqz rfl | exact o_loadC p52 rfl (by assumption)) ?_
          refine th_take (i := 17) (listed' := #[tt,tt,tt,tt,tt,tt,tt,tt,tt,tt,tt,tt,ff,tt,tt,tt,tt,tt,ff,ff,ff,ff,ff,ff,ff]) rfl kqz kqz kqz rfl rfl (o_move (by conv => lhs; whnf)) ?_; refine th_take (i := 18) (listed' := #[tt,tt,tt,tt,tt,tt,tt,tt,tt,tt,tt,tt,ff,tt,tt,tt,tt,tt,tt,ff,ff,ff,ff,ff,ff]) rfl kqz kqz kqz rfl rfl (o_ixP Tryz.underlying52 sz77 rfl rfl sq1z sq0z) ?_; refine th_take (i := 19) (listed' := #[tt,tt,tt,tt,tt,tt,tt,tt,tt,tt,tt,tt,ff,tt,tt,tt,tt,tt,tt,tt,ff,ff,ff,ff,ff]) rfl kqz kqz kqz rfl rfl (o_faP (m := 0) (o := 1) Tryz.underlying77 rfl rfl sz3 rfl sq0z) ?_; refine th_two (i := 12) (j := 20) kqz ?_ ?_
          · skip
            refine oh_v (i := 12) (listed' := #[tt,tt,tt,tt,tt,tt,tt,tt,tt,tt,tt,tt,tt,tt,tt,tt,tt,tt,tt,tt,ff,ff,ff,ff,ff]) rfl rfl rfl (o_ldP p75 rfl sq2z g1) ?_; refine th_one (i := 20) kqz ?_; refine oh_v (i := 20) (listed' := #[tt,tt,tt,tt,tt,tt,tt,tt,tt,tt,tt,tt,tt,tt,tt,tt,tt,tt,tt,tt,tt,ff,ff,ff,ff]) rfl rfl rfl (o_ldP p3 rfl sq2z g2) ?_; refine th_take (i := 21) (listed' := #[tt,tt,tt,tt,tt,tt,tt,tt,tt,tt,tt,tt,tt,tt,tt,tt,tt,tt,tt,tt,tt,tt,ff,ff,ff]) rfl kqz kqz kqz rfl rfl (o_slice Tryz.underlying75 sz22 rfl (bnd_some rfl oqz) bnd_none oqz oqz) ?_; refine th_take (i := 22) (listed' := #[tt,tt,tt,tt,tt,tt,tt,tt,tt,tt,tt,tt,tt,tt,tt,tt,tt,tt,tt,tt,tt,tt,tt,ff,ff]) rfl kqz kqz kqz rfl rfl (o_ixP Tryz.underlying52 sz77 rfl rfl sq1z sq0z) ?_
            refine th_take (i := 23) (listed' := #[tt,tt,tt,tt,tt,tt,tt,tt,tt,tt,tt,tt,tt,tt,tt,tt,tt,tt,tt,tt,tt,tt,tt,tt,ff]) rfl kqz kqz kqz rfl rfl (o_faP (m := 0) (o := 0) Tryz.underlying77 rfl rfl sz75 rfl sq0z) ?_; refine th_one (i := 24) kqz ?_; refine oh_u (i := 24) (listed' := #[tt,tt,tt,tt,tt,tt,tt,tt,tt,tt,tt,tt,tt,tt,tt,tt,tt,tt,tt,tt,tt,tt,tt,tt,tt]) rfl rfl rfl (o_stP (ys := (rls1.set i ⟨.slice (cutAddr (some ⟨ba, oa, none⟩) ca rls1[i].mark.toNat 1) (rls1[i].rows.length - rls1[i].mark.toNat) (ca - rls1[i].mark.toNat), rls1[i].rows.drop rls1[i].mark.toNat, rls1[i].mark⟩).flatMap rcl) sz75 rfl rfl rfl ctqz oqz (fm_set (f := rcl) (k := 2) (j := 0) (y := ⟨.slice (cutAddr (some ⟨ba, oa, none⟩) ca rls1[i].mark.toNat 1) (rls1[i].rows.length - rls1[i].mark.toNat) (ca - rls1[i].mark.toNat), rls1[i].rows.drop rls1[i].mark.toNat, rls1[i].mark⟩) (rcl_len _) hir (by decide) rfl rfl)) drqz ?_; refine th_done kqz ?_; refine q_then_n ?_
            have hir2 : i < (rls1.set i ⟨.slice (cutAddr (some ⟨ba, oa, none⟩) ca rls1[i].mark.toNat 1) (rls1[i].rows.length - rls1[i].mark.toNat) (ca - rls1[i].mark.toNat), rls1[i].rows.drop rls1[i].mark.toNat, rls1[i].mark⟩).length := by rw [List.length_set]; exact hir
            refine tc_reg ?_; refine tlm ?_; refine tv (o_nilCheck rfl) ?_; refine tv (o_fieldAddr (o := 1) Tryz.underlying55 rfl rfl sz52 rfl) ?_; refine tv (by first | exact o_load p52 rfl hsqz rfl | exact o_loadC p52 rfl (by assumption)) ?_; refine tlm ?_; refine tv (o_ixP Tryz.underlying52 sz77 rfl rfl sq1z sq0z) ?_; refine tv (o_faP (m := 0) (o := 1) Tryz.underlying77 rfl rfl sz3 rfl sq0z) ?_; refine tl_u rfl (o_stP (ys := (rls1.set i ⟨.slice (cutAddr (some ⟨ba, oa, none⟩) ca rls1[i].mark.toNat 1) (rls1[i].rows.length - rls1[i].mark.toNat) (ca - rls1[i].mark.toNat), rls1[i].rows.drop rls1[i].mark.toNat, -1⟩).flatMap rcl) sz3 rfl rfl rfl ctqz oqz ((fm_set (f := rcl) (k := 2) (j := 1) (y := ⟨.slice (cutAddr (some ⟨ba, oa, none⟩) ca rls1[i].mark.toNat 1) (rls1[i].rows.length - rls1[i].mark.toNat) (ca - rls1[i].mark.toNat), rls1[i].rows.drop rls1[i].mark.toNat, -1⟩) (rcl_len _) hir2 (by decide) rfl (by rw [List.getElem_set_self]; rfl)).trans (by rw [List.set_set]))) ?_
            have hnext : (rls1.set i ⟨.slice (cutAddr (some ⟨ba, oa, none⟩) ca rls1[i].mark.toNat 1) (rls1[i].rows.length - rls1[i].mark.toNat) (ca - rls1[i].mark.toNat), rls1[i].rows.drop rls1[i].mark.toNat, -1⟩).map RL.l = mp fenceL (i + 1) s.ls := by
              rw [List.map_set, hp1, ← mp_set fenceL hi]
              congr 1
              unfold fenceL
              rw [if_pos (by rw [← hmk]; exact h0), ← hmk, ← hla]
              simp [RL.l, List.map_drop]
            refine tl_pre (A' := F * RDevC r (.slice (some ⟨bl, ol, none⟩) s.ls.length cl_) (rls1.set i ⟨.slice (cutAddr (some ⟨ba, oa, none⟩) ca rls1[i].mark.toNat 1) (rls1[i].rows.length - rls1[i].mark.toNat) (ca - rls1[i].mark.toNat), rls1[i].rows.drop rls1[i].mark.toNat, -1⟩) av kvs { s with ls := mp fenceL (i + 1) s.ls }) (fun _ _ h => ?_) ?_
            · rw [← hf2 F ⟨.slice (cutAddr (some ⟨ba, oa, none⟩) ca rls1[i].mark.toNat 1) (rls1[i].rows.length - rls1[i].mark.toNat) (ca - rls1[i].mark.toNat), rls1[i].rows.drop rls1[i].mark.toNat, -1⟩ { s with ls := mp fenceL (i + 1) s.ls } (mp_length _ _ _) rfl rfl rfl rfl]
              have h1 := sl_cut (l := rls1[i].mark.toNat) (h.perm (star_swap _ _ _)) oqz
              rw [bs_split _ rls1[i].mark.toNat] at h1
              simp only [List.length_drop, List.map_drop, Nat.mul_one] at h1 ⊢
              exact (h1.perm (show _ = _ * Bs rowR (rls1[i].rows.take rls1[i].mark.toNat) by ac_rfl)).left
            refine tl_nil ?_; refine q_block_n (q_then_n ?_); refine tc_reg ?_; refine tlm ?_; refine tv adqz ?_; refine tla ?_; refine nq ?_; exact ⟨_, by omega, i + 1, _, by omega, hnext, rfl, rfl, rfl, rfl⟩
          · skip
            refine oh_v (i := 20) (listed' := #[tt,tt,tt,tt,tt,tt,tt,tt,tt,tt,tt,tt,ff,tt,tt,tt,tt,tt,tt,tt,tt,ff,ff,ff,ff]) rfl rfl rfl (o_ldP p3 rfl sq2z g2) ?_; refine th_one (i := 12) kqz ?_; refine oh_v (i := 12) (listed' := #[tt,tt,tt,tt,tt,tt,tt,tt,tt,tt,tt,tt,tt,tt,tt,tt,tt,tt,tt,tt,tt,ff,ff,ff,ff]) rfl rfl rfl (o_ldP p75 rfl sq2z g1) ?_; refine th_take (i := 21) (listed' := #[tt,tt,tt,tt,tt,tt,tt,tt,tt,tt,tt,tt,tt,tt,tt,tt,tt,tt,tt,tt,tt,tt,ff,ff,ff]) rfl kqz kqz kqz rfl rfl (o_slice Tryz.underlying75 sz22 rfl (bnd_some rfl oqz) bnd_none oqz oqz) ?_; refine th_take (i := 22) (listed' := #[tt,tt,tt,tt,tt,tt,tt,tt,tt,tt,tt,tt,tt,tt,tt,tt,tt,tt,tt,tt,tt,tt,tt,ff,ff]) rfl kqz kqz kqz rfl rfl (o_ixP Tryz.underlying52 sz77 rfl rfl sq1z sq0z) ?_
            refine th_take (i := 23) (listed' := #[tt,tt,tt,tt,tt,tt,tt,tt,tt,tt,tt,tt,tt,tt,tt,tt,tt,tt,tt,tt,tt,tt,tt,tt,ff]) rfl kqz kqz kqz rfl rfl (o_faP (m := 0) (o := 0) Tryz.underlying77 rfl rfl sz75 rfl sq0z) ?_; refine th_one (i := 24) kqz ?_; refine oh_u (i := 24) (listed' := #[tt,tt,tt,tt,tt,tt,tt,tt,tt,tt,tt,tt,tt,tt,tt,tt,tt,tt,tt,tt,tt,tt,tt,tt,tt]) rfl rfl rfl (o_stP (ys := (rls1.set i ⟨.slice (cutAddr (some ⟨ba, oa, none⟩) ca rls1[i].mark.toNat 1) (rls1[i].rows.length - rls1[i].mark.toNat) (ca - rls1[i].mark.toNat), rls1[i].rows.drop rls1[i].mark.toNat, rls1[i].mark⟩).flatMap rcl) sz75 rfl rfl rfl ctqz oqz (fm_set (f := rcl) (k := 2) (j := 0) (y := ⟨.slice (cutAddr (some ⟨ba, oa, none⟩) ca rls1[i].mark.toNat 1) (rls1[i].rows.length - rls1[i].mark.toNat) (ca - rls1[i].mark.toNat), rls1[i].rows.drop rls1[i].mark.toNat, rls1[i].mark⟩) (rcl_len _) hir (by decide) rfl rfl)) drqz ?_; refine th_done kqz ?_; refine q_then_n ?_
            have hir2 : i < (rls1.set i ⟨.slice (cutAddr (some ⟨ba, oa, none⟩) ca rls1[i].mark.toNat 1) (rls1[i].rows.length - rls1[i].mark.toNat) (ca - rls1[i].mark.toNat), rls1[i].rows.drop rls1[i].mark.toNat, rls1[i].mark⟩).length := by rw [List.length_set]; exact hir
            refine tc_reg ?_; refine tlm ?_; refine tv (o_nilCheck rfl) ?_; refine tv (o_fieldAddr (o := 1) Tryz.underlying55 rfl rfl sz52 rfl) ?_; refine tv (by first | exact o_load p52 rfl hsqz rfl | exact o_loadC p52 rfl (by assumption)) ?_; refine tlm ?_; refine tv (o_ixP Tryz.underlying52 sz77 rfl rfl sq1z sq0z) ?_; refine tv (o_faP (m := 0) (o := 1) Tryz.underlying77 rfl rfl sz3 rfl sq0z) ?_; refine tl_u rfl (o_stP (ys := (rls1.set i ⟨.slice (cutAddr (some ⟨ba, oa, none⟩) ca rls1[i].mark.toNat 1) (rls1[i].rows.length - rls1[i].mark.toNat) (ca - rls1[i].mark.toNat), rls1[i].rows.drop rls1[i].mark.toNat, -1⟩).flatMap rcl) sz3 rfl rfl rfl ctqz oqz ((fm_set (f := rcl) (k := 2) (j := 1) (y := ⟨.slice (cutAddr (some ⟨ba, oa, none⟩) ca rls1[i].mark.toNat 1) (rls1[i].rows.length - rls1[i].mark.toNat) (ca - rls1[i].mark.toNat), rls1[i].rows.drop rls1[i].mark.toNat, -1⟩) (rcl_len _) hir2 (by decide) rfl (by rw [List.getElem_set_self]; rfl)).trans (by rw [List.set_set]))) ?_
            have hnext : (rls1.set i ⟨.slice (cutAddr (some ⟨ba, oa, none⟩) ca rls1[i].mark.toNat 1) (rls1[i].rows.length - rls1[i].mark.toNat) (ca - rls1[i].mark.toNat), rls1[i].rows.drop rls1[i].mark.toNat, -1⟩).map RL.l = mp fenceL (i + 1) s.ls := by
              rw [List.map_set, hp1, ← mp_set fenceL hi]
              congr 1
              unfold fenceL
              rw [if_pos (by rw [← hmk]; exact h0), ← hmk, ← hla]
              simp [RL.l, List.map_drop]
            refine tl_pre (A' := F * RDevC r (.slice (some ⟨bl, ol, none⟩) s.ls.length cl_) (rls1.set i ⟨.slice (cutAddr (some ⟨ba, oa, none⟩) ca rls1[i].mark.toNat 1) (rls1[i].rows.length - rls1[i].mark.toNat) (ca - rls1[i].mark.toNat), rls1[i].rows.drop rls1[i].mark.toNat, -1⟩) av kvs { s with ls := mp fenceL (i + 1) s.ls }) (fun _ _ h => ?_) ?_
            · rw [← hf2 F ⟨.slice (cutAddr (some ⟨ba, oa, none⟩) ca rls1[i].mark.toNat 1) (rls1[i].rows.length - rls1[i].mark.toNat) (ca - rls1[i].mark.toNat), rls1[i].rows.drop rls1[i].mark.toNat, -1⟩ { s with ls := mp fenceL (i + 1) s.ls } (mp_length _ _ _) rfl rfl rfl rfl]
              have h1 := sl_cut (l := rls1[i].mark.toNat) (h.perm (star_swap _ _ _)) oqz
              rw [bs_split _ rls1[i].mark.toNat] at h1
              simp only [List.length_drop, List.map_drop, Nat.mul_one] at h1 ⊢
              exact (h1.perm (show _ = _ * Bs rowR (rls1[i].rows.take rls1[i].mark.toNat) by ac_rfl)).left
            refine tl_nil ?_; refine q_block_n (q_then_n ?_); refine tc_reg ?_; refine tlm ?_; refine tv adqz ?_; refine tla ?_; refine nq ?_; exact ⟨_, by omega, i + 1, _, by omega, hnext, rfl, rfl, rfl, rfl⟩
        · have h0 : ¬ 0 ≤ rls1[i].mark := by simp at h; omega
          have hsame := mp_same fenceL hi (by unfold fenceL; rw [if_neg (by rw [← hmk]; exact h0)])
          have hnext : rls1.map RL.l = mp fenceL (i + 1) s.ls := by rw [hsame]; exact hp1
          refine tc_eq (show _ = F * RDevC r (.slice (some ⟨bl, ol, none⟩) s.ls.length cl_) rls1 av kvs { s with ls := mp fenceL (i + 1) s.ls } by rw [hsame]) ?_; refine tc_skip ?_; refine q_block_n (q_then_n ?_); refine tc_reg ?_; refine tlm ?_; refine tv adqz ?_; refine tla ?_; refine nq ?_; exact ⟨_, by omega, i + 1, _, by omega, hnext, rfl, rfl, rfl, rfl⟩
      · obtain rfl : i = s.ls.length := by simp at h; omega
        have hfe : fenceS s = { s with ls := mp fenceL s.ls.length s.ls } := by unfold fenceS; rw [mp_map]
        refine tc_pre (rdev_back (mpF_wf hw) hp1 hkv) ?_
        rw [← hfe]
        refine tc_exit ?_; refine q_then_e (q_then_e (q_block_x (q_then_n ?_))); refine sr ?_; refine tlm ?_; refine tl_c rfl (o_call bd81 rfl (rdone_f F)) ?_; rintro _ _ ⟨rfl, rfl⟩; refine tla ?_; refine nq ?_; refine tc_ret ?_; exact ⟨.int .i64 (doneE (fenceS s)), F * RDev r (doneS (fenceS s)), res1 rfl rfl, Dr.sat drqz, rfl, rfl⟩
theorem rWake_f (F : SP) {r : Nat} {s : DevS} :
    Fn Tryz.prog 46 #[.pointer (some ⟨r, 0, none⟩)] (F * RDev r s) (fun v B => v = .int .i64 (if s.off then 0 else 3) ∧ B = F * RDev r { s with off := false }) := by
  refine fn_enterW (args := [.pointer (some ⟨r, 0, none⟩)]) Tryz.func46 rfl Tryz.ntmps46 (by simp) ?_; refine tc_rdev fun hw lv rls av kvs hmap hkv => ?_
  have hpos := hw.pos
  have htop := hw.top
  refine tc_have (fun _ _ h => rdevR_of hw hmap h) fun hR => ?_
  obtain ⟨bl, ol, cl_, rfl, hlc, hll⟩ := hR.lv
  have hlen := hR.len
  
  refine sr ?_; refine tla ?_; refine nq ?_; refine tc_seq ?_; refine sr ?_; refine tlm ?_; refine tv (o_nilCheck rfl) ?_; refine tv (o_fieldAddr (o := 5) Tryz.underlying55 rfl rfl sz4 rfl) ?_; refine tv (o_load p4 rfl (by repeat (first | exact rdevC_r | apply has_left)) rfl) ?_; refine tv (o_not rfl) ?_; refine nq ?_; refine tc_cond rfl (fun h => ?_) (fun h => ?_)
  · have hoff : s.off = false := by simpa using h
    have e : s = { s with off := false } := by rw [← hoff]
    refine sr ?_; refine tla ?_; refine nq ?_; refine tc_ret ?_; refine q_then_r ?_; exact ⟨.int .i64 3, F * RDev r { s with off := false }, res1 rfl rfl, by rw [← e]; exact rdev_back hw hmap hkv, by rw [hoff]; rfl, rfl⟩
  · have hoff : s.off = true := by simpa using h
    refine tc_skip ?_; refine q_then_n ?_; refine sr ?_; refine tlm ?_; refine tv (o_nilCheck rfl) ?_; refine tv (o_fieldAddr (o := 5) Tryz.underlying55 rfl rfl sz4 rfl) ?_; refine tl_u rfl (o_store sz4 rfl rfl rfl (by show 5 < 6; decide) rfl (rdevC_upd s.ops s.cnt false)) ?_; refine nq ?_; refine sr ?_; refine tla ?_; refine nq ?_; refine tc_ret ?_; exact ⟨.int .i64 0, F * RDev r { s with off := false }, res1 rfl rfl, rdev_back ⟨hw.pos, hw.top, hw.line, hw.arms, hw.after, hw.keeps⟩ hmap hkv, by rw [hoff]; rfl, rfl⟩
theorem rCrash_f (F : SP) {r c m : Nat} {s : DevS} {a : Option Addr} {keep : List Int} (hr : Rs F a (ints keep)) (hk : ∀ k ∈ keep, k ≤ 9223372036854775807) (hm : keep.length = m) (hkl : m ≤ 17592186044416) :
    Fn Tryz.prog 44 #[.pointer (some ⟨r, 0, none⟩), .slice a m c] (F * RDev r s) (fun v B => v = .int .i64 (crS keep s).1 ∧ B = F * RDev r (crS keep s).2) := by
  refine fn_enterW (args := [.pointer (some ⟨r, 0, none⟩), .slice a m c]) Tryz.func44 rfl Tryz.ntmps44 (by simp) ?_; refine tc_rdev fun hw lv rls av kvs hmap hkv => ?_
  have hpos := hw.pos
  have htop := hw.top
  refine tc_have (fun _ _ h => rdevR_of hw hmap h) fun hR => ?_
  obtain ⟨bl, ol, cl_, rfl, hlc, hll⟩ := hR.lv
  have hlen := hR.len
  
  refine sr ?_; refine tla ?_; refine nq ?_; refine tc_seq ?_; refine sr ?_; refine tlm ?_; refine tv (o_nilCheck rfl) ?_; refine tv (o_fieldAddr (o := 5) Tryz.underlying55 rfl rfl sz4 rfl) ?_; refine tv (o_load p4 rfl (by repeat (first | exact rdevC_r | apply has_left)) rfl) ?_; refine nq ?_; refine tc_cond rfl (fun h => ?_) (fun h => ?_)
  · try simp only [lv1, lv2, lv3, lv4, lv5, lv6, Bool.not_true, Bool.not_false] at h
    refine sr ?_; refine tla ?_; refine nq ?_; refine tc_ret ?_; refine q_then_r ?_
    have e : crS keep s = (5, s) := by unfold crS; rw [if_pos h]
    rw [e]
    exact ⟨.int .i64 5, F * RDev r s, res1 rfl rfl, rdev_back hw hmap hkv, rfl, rfl⟩
  · have hoff : s.off = false := by simpa using h
    refine tc_skip ?_; refine q_then_n ?_; refine tc_seq ?_; refine sr ?_; refine tlm ?_; refine tl_c rfl (o_call bd85 rfl (rbelow_c (xs := keep))) ?_; rintro _ _ ⟨rfl, rfl⟩; refine nq ?_; refine tc_cond rfl (fun h => ?_) (fun h => ?_)
    · try simp only [lv1, lv2, lv3, lv4, lv5, lv6, Bool.not_true, Bool.not_false] at h
      refine sr ?_; refine tla ?_; refine nq ?_; refine tc_ret ?_; refine q_then_r ?_
      have e : crS keep s = (2, s) := by unfold crS; rw [if_neg (by rw [hoff]; decide), if_pos h]
      rw [e]
      exact ⟨.int .i64 2, F * RDev r s, res1 rfl rfl, rdev_back hw hmap hkv, rfl, rfl⟩
    · have hlow : lowB keep = false := by simpa using h
      have e : crS keep s = (0, goesS keep s) := by unfold crS; rw [if_neg (by rw [hoff]; decide), if_neg (by rw [hlow]; decide)]
      rw [e]
      refine tc_pre (rdev_back hw hmap hkv) ?_
      subst hm
      refine tc_skip ?_; refine q_then_n ?_; refine sr ?_; refine tlm ?_; refine tlm ?_; refine tl_c rfl (o_call bd86 rfl (rgoes_f F hr (fun k hm => ⟨low_nn hlow k hm, hk k hm⟩) hkl)) ?_; rintro _ _ ⟨rfl, rfl⟩; refine nq ?_; refine sr ?_; refine tla ?_; refine nq ?_; refine tc_ret ?_; exact ⟨.int .i64 0, F * RDev r (goesS keep s), res1 rfl rfl, Dr.sat drqz, rfl, rfl⟩
set_option maxRecDepth 20000 in
set_option maxHeartbeats 1000000 in
theorem rArm_f (F : SP) {a : Option Addr} {c m r : Nat} {s : DevS} {kvs : List Value} {ars : List (Int × List Int)} (hr : RdA F a kvs ars) (hm : ars.length = m) (hl : m ≤ 17592186044416) (hk : ∀ x ∈ ars, (-9223372036854775808 ≤ x.1 ∧ x.1 ≤ 9223372036854775807) ∧ x.2.length ≤ 17592186044416 ∧ ∀ k ∈ x.2, k ≤ 9223372036854775807) :
    Fn Tryz.prog 48 #[.pointer (some ⟨r, 0, none⟩), .slice a m c] (F * RDev r s) (fun v B => v = .int .i64 (armS ars s).1 ∧ B = F * RDev r (armS ars s).2) := by
  refine fn_enterW (args := [.pointer (some ⟨r, 0, none⟩), .slice a m c]) Tryz.func48 rfl Tryz.ntmps48 (by simp) ?_; refine tc_rdev fun hw lv rls av kvs0 hmap hkv0 => ?_
  have hpos := hw.pos
  have htop := hw.top
  refine tc_have (fun _ _ h => rdevR_of hw hmap h) fun hR => ?_
  obtain ⟨bl, ol, cl_, rfl, hlc, hll⟩ := hR.lv
  have hlen := hR.len
  have ha64 := hw.arms
  have hrr : Rs F a (acs kvs ars) := hr.rd
  have hrl := acs_length hr.len
  refine sr ?_; refine tla ?_; refine nq ?_; refine tc_seq ?_; refine sr ?_; refine tlm ?_; refine tv (o_nilCheck rfl) ?_; refine tv (o_fieldAddr (o := 5) Tryz.underlying55 rfl rfl sz4 rfl) ?_; refine tv (o_load p4 rfl (by repeat (first | exact rdevC_r | apply has_left)) rfl) ?_; refine nq ?_; refine tc_cond rfl (fun h => ?_) (fun h => ?_)
  · try simp only [lv1, lv2, lv3, lv4, lv5, lv6, Bool.not_true, Bool.not_false] at h
    refine sr ?_; refine tla ?_; refine nq ?_; refine tc_ret ?_; refine q_then_r ?_
    have e : armS ars s = (5, s) := by unfold armS; rw [if_pos h]
    rw [e]
    exact ⟨.int .i64 5, F * RDev r s, res1 rfl rfl, rdev_back hw hmap hkv0, rfl, rfl⟩
  · have hoff : s.off = false := by simpa using h
    refine tc_skip ?_; refine q_then_n ?_; refine tc_seq ?_; refine sr ?_; refine tla ?_; refine nq ?_; refine tc_block ?_; refine tc_loop (fun kk ρ BB => ∃ (i : Nat), (i ≤ m) ∧ ((ars.take i).any badA = false) ∧ kk = m - i ∧ ρ 5 = .int .i64 (i : Nat) ∧ ρ 0 = .pointer (some ⟨r, 0, none⟩) ∧ ρ 1 = .slice a m c ∧ BB = F * RDevC r (.slice (some ⟨bl, ol, none⟩) s.ls.length cl_) rls av kvs0 s) (m := m - (0)) ?_ ?_
    · exact ⟨0, by omega, rfl, rfl, rfl, rfl, rfl, rfl⟩
    · intro k ρ B hI
      obtain ⟨i, hp0, hp1, hkk1, hE5, hE0, hE1, rfl⟩ := hI
      refine tc_env (d := 5) hE5 ?_; refine tc_env (d := 0) hE0 ?_; refine tc_env (d := 1) hE1 ?_
      clear hE5 hE0 hE1
      refine tc_seq ?_; refine sr ?_; refine tlm ?_; refine tlm ?_; refine tv (o_len Tryz.underlying53 rfl) ?_; refine tv (o_lss rfl rfl) ?_; refine nq ?_; refine tc_cond rfl (fun h => ?_) (fun h => ?_)
      · have hi : i < ars.length := by simp at h; omega
        obtain ⟨kb, kc, hkv, hkc, hkr⟩ := hr.keep i hi
        have g0 := acs_at0 hr.len hi
        have g1 := acs_at1 hr.len hi
        have hkv2 : kvs[i]'(by rw [hr.len]; exact hi) = .slice kb ars[i].2.length kc := by rw [List.getElem?_eq_getElem (by rw [hr.len]; exact hi)] at hkv; exact Option.some.inj hkv
        rw [hkv2] at g1
        have hke := hk _ (List.getElem_mem hi)
        refine tc_skip ?_; refine q_then_n ?_; refine tc_seq ?_; refine tc_block ?_; refine sr ?_; refine tlm ?_; refine tlm ?_; refine tv (o_ixP Tryz.underlying53 sz107 rfl rfl sq1z sq0z) ?_; refine tv (o_faP (m := 0) (o := 0) Tryz.underlying107 rfl rfl sz3 rfl sq0z) ?_; refine tv (o_ldP p3 rfl sq2z (by first | assumption | exact bys_at oqz | exact ints_at oqz | exact wds_at oqz | exact bos_at oqz | rfl)) ?_; refine tv (o_lss rfl rfl) ?_; refine tlm ?_; refine tl_bool (d := 23) rfl (fun h => ?_) (fun h => ?_)
        · try simp only [lv1, lv2, lv3, lv4, lv5, lv6, Bool.not_true, Bool.not_false] at h
          refine tk ?_; refine tk ?_; refine tk ?_; refine tk ?_; refine tk ?_; refine tk ?_; refine tv (o_pick_t rfl (by conv => lhs; whnf)) ?_; refine nq ?_; refine tc_cond_t rfl ?_; refine sr ?_; refine tla ?_; refine nq ?_; refine tc_ret ?_; refine q_block_r (q_then_r (q_then_r (q_block_r (q_then_r ?_))))
          have hs2 : armS ars s = (2, s) := by unfold armS; rw [if_neg (by rw [hoff]; decide), if_pos (any_at hi (by unfold badA; simp at h ⊢; first | exact h | exact .inl h | exact .inr h | omega))]
          rw [hs2]
          exact ⟨.int .i64 2, F * RDev r s, res1 rfl rfl, rdev_back hw hmap hkv0, rfl, rfl⟩
        · try simp only [lv1, lv2, lv3, lv4, lv5, lv6, Bool.not_true, Bool.not_false] at h
          refine tlm ?_; refine tlm ?_; refine tv (o_ixP Tryz.underlying53 sz107 rfl rfl sq1z sq0z) ?_; refine tv (o_faP (m := 0) (o := 1) Tryz.underlying107 rfl rfl sz48 rfl sq0z) ?_; refine tv (o_ldP p48 rfl sq2z (by first | assumption | exact bys_at oqz | exact ints_at oqz | exact wds_at oqz | exact bos_at oqz | rfl)) ?_; refine tl_c rfl (o_call bd85 rfl (rbelow_c (xs := ars[i].2))) ?_; rintro _ _ ⟨rfl, rfl⟩; refine tv (o_pick_f rfl (by conv => lhs; whnf)) ?_; refine nq ?_
          refine tc_cond rfl (fun h => ?_) (fun h => ?_)
          · try simp only [lv1, lv2, lv3, lv4, lv5, lv6, Bool.not_true, Bool.not_false] at h
            refine sr ?_; refine tla ?_; refine nq ?_; refine tc_ret ?_; refine q_block_r (q_then_r (q_then_r (q_block_r (q_then_r ?_))))
            have hs2 : armS ars s = (2, s) := by unfold armS; rw [if_neg (by rw [hoff]; decide), if_pos (any_at hi (by unfold badA; simp at h ⊢; first | exact h | exact .inl h | exact .inr h | omega))]
            rw [hs2]
            exact ⟨.int .i64 2, F * RDev r s, res1 rfl rfl, rdev_back hw hmap hkv0, rfl, rfl⟩
          · have hbad : badA ars[i] = false := by unfold badA; rw [Bool.or_eq_false_iff]; exact ⟨by simp; omega, h⟩
            refine tc_skip ?_; refine q_block_n (q_then_n ?_); refine tc_reg ?_; refine tlm ?_; refine tv adqz ?_; refine tla ?_; refine nq ?_; exact ⟨_, by omega, i + 1, by omega, any_take hp1 hi hbad, rfl, rfl, rfl, rfl, rfl⟩
      · have hmi : m = i := by simp at h; omega
        subst hmi
        have hnb : ars.any badA = false := by rwa [List.take_of_length_le oqz] at hp1
        refine tc_have (fun _ _ h => rdevC_arms h) fun ⟨aa, ca, hav, _⟩ => ?_
        subst hav
        refine tc_exit ?_; refine q_then_e (q_then_e (q_block_x (q_then_n ?_))); refine tc_seq ?_; refine sr ?_; refine tlm ?_; refine tv (o_len Tryz.underlying53 rfl) ?_; refine tlm ?_; refine tv (o_nilCheck rfl) ?_; refine tv (o_fieldAddr (o := 3) Tryz.underlying55 rfl rfl sz53 rfl) ?_; refine tv (o_load p53 rfl (by repeat (first | exact rdevC_r | apply has_left)) rfl) ?_; refine tv (o_len Tryz.underlying53 rfl) ?_; refine tv adqz ?_; refine tv (o_gtr rfl rfl) ?_; refine nq ?_; refine tc_cond rfl (fun h => ?_) (fun h => ?_)
        · try simp only [lv1, lv2, lv3, lv4, lv5, lv6, Bool.not_true, Bool.not_false] at h
          refine sr ?_; refine tla ?_; refine nq ?_; refine tc_ret ?_; refine q_then_r ?_
          have hs2 : armS ars s = (4, s) := by unfold armS; rw [if_neg (by rw [hoff]; decide), if_neg (by rw [hnb]; decide), if_pos oqz]
          rw [hs2]
          exact ⟨.int .i64 4, F * RDev r s, res1 rfl rfl, rdev_back hw hmap hkv0, rfl, rfl⟩
        · have hfit : ars.length + s.arms.length ≤ 64 := by simp at h; omega
          refine tc_pre (rdev_back hw hmap hkv0) ?_; refine tc_skip ?_; refine q_then_n ?_; refine tc_seq ?_; refine sr ?_; refine tla ?_; refine nq ?_; refine tc_block ?_; refine tc_loop (fun kk ρ BB => ∃ (i : Nat), (i ≤ m) ∧ kk = m - i ∧ ρ 6 = .int .i64 (i : Nat) ∧ ρ 0 = .pointer (some ⟨r, 0, none⟩) ∧ ρ 1 = .slice a m c ∧ BB = F * RDev r { s with arms := s.arms ++ ars.take i }) (m := m - (0)) ?_ ?_
          · exact ⟨0, by omega, rfl, rfl, rfl, rfl, by rw [List.take_zero, List.append_nil]⟩
          · intro k ρ B hI
            obtain ⟨i, hp0, hkk2, hE6, hE0, hE1, rfl⟩ := hI
            refine tc_env (d := 6) hE6 ?_; refine tc_env (d := 0) hE0 ?_; refine tc_env (d := 1) hE1 ?_
            clear hE6 hE0 hE1
            refine tc_seq ?_; refine sr ?_; refine tlm ?_; refine tlm ?_; refine tv (o_len Tryz.underlying53 rfl) ?_; refine tv (o_lss rfl rfl) ?_; refine nq ?_; refine tc_cond rfl (fun h => ?_) (fun h => ?_)
            · have hi : i < ars.length := by simp at h; omega
              obtain ⟨kb, kc, hkv, hkc, hkr⟩ := hr.keep i hi
              have g0 := acs_at0 hr.len hi
              have g1 := acs_at1 hr.len hi
              have hkv2 : kvs[i]'(by rw [hr.len]; exact hi) = .slice kb ars[i].2.length kc := by rw [List.getElem?_eq_getElem (by rw [hr.len]; exact hi)] at hkv; exact Option.some.inj hkv
              rw [hkv2] at g1
              have hke := hk _ (List.getElem_mem hi)
              refine tc_rdev fun hw2 lv2 rls2 av2 kvs2 hmap2 hkv3 => ?_; refine tc_have (fun _ _ h => rdevC_arms h) fun ⟨aa2, ca2, hav, _⟩ => ?_
              subst hav
              refine tc_eq (show _ = F * KeepsR kvs2 (s.arms ++ ars.take i) * Bs rlR rls2 * Sl 2 lv2 s.ls.length (rls2.flatMap rcl) * pt r (cl (rdcs lv2 { s with arms := s.arms ++ ars.take i } (.slice aa2 (s.arms ++ ars.take i).length ca2)) 55) * Sl 2 (.slice aa2 (s.arms ++ ars.take i).length ca2) (s.arms ++ ars.take i).length (acs kvs2 (s.arms ++ ars.take i)) by unfold RDevC ArmsR; ac_rfl) ?_; refine tc_skip ?_; refine q_then_n ?_; refine tc_seq ?_; refine tc_block ?_; refine tc_regh (S := F * KeepsR kvs2 (s.arms ++ ars.take i) * Bs rlR rls2) mo drqz ?_
              show TH _ _ _ _ _ 22 #[ff,ff,ff,ff,ff,ff,ff,ff,ff,ff,ff,ff,ff,ff,ff,ff,ff,ff,ff,ff,ff,ff] _ _
              refine th_take (i := 0) (listed' := #[tt,ff,ff,ff,ff,ff,ff,ff,ff,ff,ff,ff,ff,ff,ff,ff,ff,ff,ff,ff,ff,ff]) rfl kqz kqz kqz rfl rfl (o_move (by conv => lhs; whnf)) ?_; refine th_take (i := 1) (listed' := #[tt,tt,ff,ff,ff,ff,ff,ff,ff,ff,ff,ff,ff,ff,ff,ff,ff,ff,ff,ff,ff,ff]) rfl kqz kqz kqz rfl rfl (o_move (by conv => lhs; whnf)) ?_; refine th_take (i := 2) (listed' := #[tt,tt,tt,ff,ff,ff,ff,ff,ff,ff,ff,ff,ff,ff,ff,ff,ff,ff,ff,ff,ff,ff]) rfl kqz kqz kqz rfl rfl (o_nilCheck rfl) ?_; refine th_take (i := 3) (listed' := #[tt,tt,tt,tt,ff,ff,ff,ff,ff,ff,ff,ff,ff,ff,ff,ff,ff,ff,ff,ff,ff,ff]) rfl kqz kqz kqz rfl rfl (o_fieldAddr (o := 3) Tryz.underlying55 rfl rfl sz53 rfl) ?_; refine th_take (i := 5) (listed' := #[tt,tt,tt,tt,ff,tt,ff,ff,ff,ff,ff,ff,ff,ff,ff,ff,ff,ff,ff,ff,ff,ff]) rfl kqz kqz kqz rfl rfl (o_move (by conv => lhs; whnf)) ?_; refine th_take (i := 6) (listed' := #[tt,tt,tt,tt,ff,tt,tt,ff,ff,ff,ff,ff,ff,ff,ff,ff,ff,ff,ff,ff,ff,ff]) rfl kqz kqz kqz rfl rfl (o_move (by conv => lhs; whnf)) ?_; refine th_take (i := 7) (listed' := #[tt,tt,tt,tt,ff,tt,tt,tt,ff,ff,ff,ff,ff,ff,ff,ff,ff,ff,ff,ff,ff,ff]) rfl kqz kqz kqz rfl rfl (o_ixP Tryz.underlying53 sz107 rfl rfl sq1z sq0z) ?_
              refine th_take (i := 8) (listed' := #[tt,tt,tt,tt,ff,tt,tt,tt,tt,ff,ff,ff,ff,ff,ff,ff,ff,ff,ff,ff,ff,ff]) rfl kqz kqz kqz rfl rfl (o_faP (m := 0) (o := 0) Tryz.underlying107 rfl rfl sz3 rfl sq0z) ?_; refine th_take (i := 9) (listed' := #[tt,tt,tt,tt,ff,tt,tt,tt,tt,tt,ff,ff,ff,ff,ff,ff,ff,ff,ff,ff,ff,ff]) rfl kqz kqz kqz rfl rfl (o_ldP p3 rfl sq2z (by first | assumption | exact bys_at oqz | exact ints_at oqz | exact wds_at oqz | exact bos_at oqz | rfl)) ?_; refine th_take (i := 10) (listed' := #[tt,tt,tt,tt,ff,tt,tt,tt,tt,tt,tt,ff,ff,ff,ff,ff,ff,ff,ff,ff,ff,ff]) rfl kqz kqz kqz rfl rfl (o_move (by conv => lhs; whnf)) ?_; refine th_take (i := 11) (listed' := #[tt,tt,tt,tt,ff,tt,tt,tt,tt,tt,tt,tt,ff,ff,ff,ff,ff,ff,ff,ff,ff,ff]) rfl kqz kqz kqz rfl rfl (o_move (by conv => lhs; whnf)) ?_; refine th_take (i := 12) (listed' := #[tt,tt,tt,tt,ff,tt,tt,tt,tt,tt,tt,tt,tt,ff,ff,ff,ff,ff,ff,ff,ff,ff]) rfl kqz kqz kqz rfl rfl (o_ixP Tryz.underlying53 sz107 rfl rfl sq1z sq0z) ?_
              refine th_take (i := 13) (listed' := #[tt,tt,tt,tt,ff,tt,tt,tt,tt,tt,tt,tt,tt,tt,ff,ff,ff,ff,ff,ff,ff,ff]) rfl kqz kqz kqz rfl rfl (o_faP (m := 0) (o := 1) Tryz.underlying107 rfl rfl sz48 rfl sq0z) ?_; refine th_take (i := 14) (listed' := #[tt,tt,tt,tt,ff,tt,tt,tt,tt,tt,tt,tt,tt,tt,tt,ff,ff,ff,ff,ff,ff,ff]) rfl kqz kqz kqz rfl rfl (o_ldP p48 rfl sq2z (by first | assumption | exact bys_at oqz | exact ints_at oqz | exact wds_at oqz | exact bos_at oqz | rfl)) ?_; refine th_two (i := 4) (j := 15) kqz ?_ ?_
              · skip
                refine oh_v (i := 4) (listed' := #[tt,tt,tt,tt,tt,tt,tt,tt,tt,tt,tt,tt,tt,tt,tt,ff,ff,ff,ff,ff,ff,ff]) rfl rfl rfl (o_load p53 rfl hsqz rfl) ?_; refine th_one (i := 15) kqz ?_; refine oh_c (i := 15) (listed' := #[tt,tt,tt,tt,tt,tt,tt,tt,tt,tt,tt,tt,tt,tt,tt,tt,ff,ff,ff,ff,ff,ff]) rfl rfl rfl (o_call bd43 rfl (CopyInts_c (xs := ars[i].2))) ?_; rintro _ _ ⟨a61, c61, rfl, hc61, rfl⟩; refine ⟨by repeat (first | with_reducible exact dr_refl | apply dr_keep | apply dr_drop), ?_⟩; refine th_take (i := 16) (listed' := #[tt,tt,tt,tt,tt,tt,tt,tt,tt,tt,tt,tt,tt,tt,tt,tt,tt,ff,ff,ff,ff,ff]) rfl kqz kqz kqz rfl rfl (o_bS (l := [_, _]) (pv_cons (by conv => lhs; whnf) (pv_cons (by conv => lhs; whnf) pv_nil)) Tryz.underlying107 z107 (pl107 Tryz.underlying107) rfl) ?_; refine th_one (i := 17) kqz ?_; refine oh_x (i := 17) (listed' := #[tt,tt,tt,tt,tt,tt,tt,tt,tt,tt,tt,tt,tt,tt,tt,tt,tt,tt,ff,ff,ff,ff]) rfl rfl rfl (o_buildSliceK Tryz.underlying53 sz107 z107 rfl (by first | rfl | simp) (by decide)) ?_; rintro _ _ ⟨b63, rfl, rfl⟩; refine ⟨by repeat (first | with_reducible exact dr_refl | apply dr_keep | apply dr_drop), ?_⟩; refine th_one (i := 18) kqz ?_; refine oh_x (i := 18) (listed' := #[tt,tt,tt,tt,tt,tt,tt,tt,tt,tt,tt,tt,tt,tt,tt,tt,tt,tt,tt,ff,ff,ff]) rfl rfl rfl (o_apB Tryz.underlying53 Tryz.underlying53 sz107 by107 z107 rfl (by decide) (by decide) rfl rfl rfl ctqz rfl (by first | exact bys_all _ | exact ints_all _ | exact wds_all _ | exact bos_all _ | rfl) sq1z (by first | exact bys_sn _ _ | exact ints_sn _ _ | exact wds_sn _ _ | exact bos_sn _ _ | exact (bys_append _ _).symm | rfl)) ?_
                rintro _ _ ⟨a64, c64, rfl, hc64, rfl⟩; refine ⟨by repeat (first | with_reducible exact dr_refl | apply dr_keep | apply dr_drop), ?_⟩; refine th_take (i := 19) (listed' := #[tt,tt,tt,tt,tt,tt,tt,tt,tt,tt,tt,tt,tt,tt,tt,tt,tt,tt,tt,tt,ff,ff]) rfl kqz kqz kqz rfl rfl (o_nilCheck rfl) ?_; refine th_take (i := 20) (listed' := #[tt,tt,tt,tt,tt,tt,tt,tt,tt,tt,tt,tt,tt,tt,tt,tt,tt,tt,tt,tt,tt,ff]) rfl kqz kqz kqz rfl rfl (o_fieldAddr (o := 3) Tryz.underlying55 rfl rfl sz53 rfl) ?_; refine th_one (i := 21) kqz ?_; refine oh_u (i := 21) (listed' := #[tt,tt,tt,tt,tt,tt,tt,tt,tt,tt,tt,tt,tt,tt,tt,tt,tt,tt,tt,tt,tt,tt]) rfl rfl rfl (o_stU (l' := rdcs lv2 { s with arms := s.arms ++ ars.take i } (.slice a64 ((s.arms ++ ars.take i).length + 1) c64)) rfl upqz sz53 rfl rfl (by show 3 < 6; decide) rfl) drqz ?_; refine th_done kqz ?_; refine q_block_n (q_then_n ?_)
                have hw3 : WfD { { s with arms := s.arms ++ ars.take i } with arms := { s with arms := s.arms ++ ars.take i }.arms ++ [ars[i]] } := by
                  show WfD { s with arms := (s.arms ++ ars.take i) ++ [ars[i]] }
                  rw [List.append_assoc, ← List.take_succ_eq_append_getElem hi]
                  exact arm_wf hw (by rw [List.length_take]; omega) (by rw [List.any_eq_false] at hnb ⊢; exact fun x hx => hnb x (List.mem_of_mem_take hx)) (fun x hx => by have := hk x (List.mem_of_mem_take hx); exact ⟨this.1.2, this.2⟩)
                refine tc_pre (A' := F * RDev r { { s with arms := s.arms ++ ars.take i } with arms := { s with arms := s.arms ++ ars.take i }.arms ++ [ars[i]] }) (fun _ _ h => rarm_back (F := F) (r := r) (J := emp) (v := .slice a61 ars[i].2.length c61) (av := .slice a64 ((s.arms ++ ars.take i).length + 1) c64) hw3 hmap2 hkv3 (h.perm (by rw [star_emp]; first | rfl | ac_rfl))) ?_; refine tc_reg ?_; refine tlm ?_; refine tv adqz ?_; refine tla ?_; refine nq ?_; exact ⟨_, by omega, i + 1, by omega, rfl, rfl, rfl, rfl, by rw [List.take_succ_eq_append_getElem hi, ← List.append_assoc]⟩
              · skip
                refine oh_c (i := 15) (listed' := #[tt,tt,tt,tt,ff,tt,tt,tt,tt,tt,tt,tt,tt,tt,tt,tt,ff,ff,ff,ff,ff,ff]) rfl rfl rfl (o_call bd43 rfl (CopyInts_c (xs := ars[i].2))) ?_; rintro _ _ ⟨a61, c61, rfl, hc61, rfl⟩; refine ⟨by repeat (first | with_reducible exact dr_refl | apply dr_keep | apply dr_drop), ?_⟩; refine th_take (i := 16) (listed' := #[tt,tt,tt,tt,ff,tt,tt,tt,tt,tt,tt,tt,tt,tt,tt,tt,tt,ff,ff,ff,ff,ff]) rfl kqz kqz kqz rfl rfl (o_bS (l := [_, _]) (pv_cons (by conv => lhs; whnf) (pv_cons (by conv => lhs; whnf) pv_nil)) Tryz.underlying107 z107 (pl107 Tryz.underlying107) rfl) ?_; refine th_two (i := 4) (j := 17) kqz ?_ ?_
                · skip
                  refine oh_v (i := 4) (listed' := #[tt,tt,tt,tt,tt,tt,tt,tt,tt,tt,tt,tt,tt,tt,tt,tt,tt,ff,ff,ff,ff,ff]) rfl rfl rfl (o_load p53 rfl hsqz rfl) ?_; refine th_one (i := 17) kqz ?_; refine oh_x (i := 17) (listed' := #[tt,tt,tt,tt,tt,tt,tt,tt,tt,tt,tt,tt,tt,tt,tt,tt,tt,tt,ff,ff,ff,ff]) rfl rfl rfl (o_buildSliceK Tryz.underlying53 sz107 z107 rfl (by first | rfl | simp) (by decide)) ?_; rintro _ _ ⟨b63, rfl, rfl⟩; refine ⟨by repeat (first | with_reducible exact dr_refl | apply dr_keep | apply dr_drop), ?_⟩; refine th_one (i := 18) kqz ?_; refine oh_x (i := 18) (listed' := #[tt,tt,tt,tt,tt,tt,tt,tt,tt,tt,tt,tt,tt,tt,tt,tt,tt,tt,tt,ff,ff,ff]) rfl rfl rfl (o_apB Tryz.underlying53 Tryz.underlying53 sz107 by107 z107 rfl (by decide) (by decide) rfl rfl rfl ctqz rfl (by first | exact bys_all _ | exact ints_all _ | exact wds_all _ | exact bos_all _ | rfl) sq1z (by first | exact bys_sn _ _ | exact ints_sn _ _ | exact wds_sn _ _ | exact bos_sn _ _ | exact (bys_append _ _).symm | rfl)) ?_; rintro _ _ ⟨a64, c64, rfl, hc64, rfl⟩; refine ⟨by repeat (first | with_reducible exact dr_refl | apply dr_keep | apply dr_drop), ?_⟩
                  refine th_take (i := 19) (listed' := #[tt,tt,tt,tt,tt,tt,tt,tt,tt,tt,tt,tt,tt,tt,tt,tt,tt,tt,tt,tt,ff,ff]) rfl kqz kqz kqz rfl rfl (o_nilCheck rfl) ?_; refine th_take (i := 20) (listed' := #[tt,tt,tt,tt,tt,tt,tt,tt,tt,tt,tt,tt,tt,tt,tt,tt,tt,tt,tt,tt,tt,ff]) rfl kqz kqz kqz rfl rfl (o_fieldAddr (o := 3) Tryz.underlying55 rfl rfl sz53 rfl) ?_; refine th_one (i := 21) kqz ?_; refine oh_u (i := 21) (listed' := #[tt,tt,tt,tt,tt,tt,tt,tt,tt,tt,tt,tt,tt,tt,tt,tt,tt,tt,tt,tt,tt,tt]) rfl rfl rfl (o_stU (l' := rdcs lv2 { s with arms := s.arms ++ ars.take i } (.slice a64 ((s.arms ++ ars.take i).length + 1) c64)) rfl upqz sz53 rfl rfl (by show 3 < 6; decide) rfl) drqz ?_; refine th_done kqz ?_; refine q_block_n (q_then_n ?_)
                  have hw3 : WfD { { s with arms := s.arms ++ ars.take i } with arms := { s with arms := s.arms ++ ars.take i }.arms ++ [ars[i]] } := by
                    show WfD { s with arms := (s.arms ++ ars.take i) ++ [ars[i]] }
                    rw [List.append_assoc, ← List.take_succ_eq_append_getElem hi]
                    exact arm_wf hw (by rw [List.length_take]; omega) (by rw [List.any_eq_false] at hnb ⊢; exact fun x hx => hnb x (List.mem_of_mem_take hx)) (fun x hx => by have := hk x (List.mem_of_mem_take hx); exact ⟨this.1.2, this.2⟩)
                  refine tc_pre (A' := F * RDev r { { s with arms := s.arms ++ ars.take i } with arms := { s with arms := s.arms ++ ars.take i }.arms ++ [ars[i]] }) (fun _ _ h => rarm_back (F := F) (r := r) (J := emp) (v := .slice a61 ars[i].2.length c61) (av := .slice a64 ((s.arms ++ ars.take i).length + 1) c64) hw3 hmap2 hkv3 (h.perm (by rw [star_emp]; first | rfl | ac_rfl))) ?_; refine tc_reg ?_; refine tlm ?_; refine tv adqz ?_; refine tla ?_; refine nq ?_; exact ⟨_, by omega, i + 1, by omega, rfl, rfl, rfl, rfl, by rw [List.take_succ_eq_append_getElem hi, ← List.append_assoc]⟩
                · skip
                  refine oh_x (i := 17) (listed' := #[tt,tt,tt,tt,ff,tt,tt,tt,tt,tt,tt,tt,tt,tt,tt,tt,tt,tt,ff,ff,ff,ff]) rfl rfl rfl (o_buildSliceK Tryz.underlying53 sz107 z107 rfl (by first | rfl | simp) (by decide)) ?_; rintro _ _ ⟨b63, rfl, rfl⟩; refine ⟨by repeat (first | with_reducible exact dr_refl | apply dr_keep | apply dr_drop), ?_⟩; refine th_one (i := 4) kqz ?_; refine oh_v (i := 4) (listed' := #[tt,tt,tt,tt,tt,tt,tt,tt,tt,tt,tt,tt,tt,tt,tt,tt,tt,tt,ff,ff,ff,ff]) rfl rfl rfl (o_load p53 rfl hsqz rfl) ?_; refine th_one (i := 18) kqz ?_; refine oh_x (i := 18) (listed' := #[tt,tt,tt,tt,tt,tt,tt,tt,tt,tt,tt,tt,tt,tt,tt,tt,tt,tt,tt,ff,ff,ff]) rfl rfl rfl (o_apB Tryz.underlying53 Tryz.underlying53 sz107 by107 z107 rfl (by decide) (by decide) rfl rfl rfl ctqz rfl (by first | exact bys_all _ | exact ints_all _ | exact wds_all _ | exact bos_all _ | rfl) sq1z (by first | exact bys_sn _ _ | exact ints_sn _ _ | exact wds_sn _ _ | exact bos_sn _ _ | exact (bys_append _ _).symm | rfl)) ?_; rintro _ _ ⟨a64, c64, rfl, hc64, rfl⟩; refine ⟨by repeat (first | with_reducible exact dr_refl | apply dr_keep | apply dr_drop), ?_⟩
                  refine th_take (i := 19) (listed' := #[tt,tt,tt,tt,tt,tt,tt,tt,tt,tt,tt,tt,tt,tt,tt,tt,tt,tt,tt,tt,ff,ff]) rfl kqz kqz kqz rfl rfl (o_nilCheck rfl) ?_; refine th_take (i := 20) (listed' := #[tt,tt,tt,tt,tt,tt,tt,tt,tt,tt,tt,tt,tt,tt,tt,tt,tt,tt,tt,tt,tt,ff]) rfl kqz kqz kqz rfl rfl (o_fieldAddr (o := 3) Tryz.underlying55 rfl rfl sz53 rfl) ?_; refine th_one (i := 21) kqz ?_; refine oh_u (i := 21) (listed' := #[tt,tt,tt,tt,tt,tt,tt,tt,tt,tt,tt,tt,tt,tt,tt,tt,tt,tt,tt,tt,tt,tt]) rfl rfl rfl (o_stU (l' := rdcs lv2 { s with arms := s.arms ++ ars.take i } (.slice a64 ((s.arms ++ ars.take i).length + 1) c64)) rfl upqz sz53 rfl rfl (by show 3 < 6; decide) rfl) drqz ?_; refine th_done kqz ?_; refine q_block_n (q_then_n ?_)
                  have hw3 : WfD { { s with arms := s.arms ++ ars.take i } with arms := { s with arms := s.arms ++ ars.take i }.arms ++ [ars[i]] } := by
                    show WfD { s with arms := (s.arms ++ ars.take i) ++ [ars[i]] }
                    rw [List.append_assoc, ← List.take_succ_eq_append_getElem hi]
                    exact arm_wf hw (by rw [List.length_take]; omega) (by rw [List.any_eq_false] at hnb ⊢; exact fun x hx => hnb x (List.mem_of_mem_take hx)) (fun x hx => by have := hk x (List.mem_of_mem_take hx); exact ⟨this.1.2, this.2⟩)
                  refine tc_pre (A' := F * RDev r { { s with arms := s.arms ++ ars.take i } with arms := { s with arms := s.arms ++ ars.take i }.arms ++ [ars[i]] }) (fun _ _ h => rarm_back (F := F) (r := r) (J := emp) (v := .slice a61 ars[i].2.length c61) (av := .slice a64 ((s.arms ++ ars.take i).length + 1) c64) hw3 hmap2 hkv3 (h.perm (by rw [star_emp]; first | rfl | ac_rfl))) ?_; refine tc_reg ?_; refine tlm ?_; refine tv adqz ?_; refine tla ?_; refine nq ?_; exact ⟨_, by omega, i + 1, by omega, rfl, rfl, rfl, rfl, by rw [List.take_succ_eq_append_getElem hi, ← List.append_assoc]⟩
            · try simp only [lv1, lv2, lv3, lv4, lv5, lv6, Bool.not_true, Bool.not_false] at h
              refine tc_exit ?_; refine q_then_e (q_then_e (q_block_x (q_then_n ?_))); refine sr ?_; refine tla ?_; refine nq ?_; refine tc_ret ?_
              obtain rfl : m = i := by omega
              have hs2 : armS ars s = (0, { s with arms := s.arms ++ ars }) := by unfold armS; rw [if_neg (by rw [hoff]; decide), if_neg (by rw [hnb]; decide), if_neg oqz]
              rw [hs2, List.take_of_length_le (show ars.length ≤ m by omega)]
              exact ⟨.int .i64 0, F * RDev r { s with arms := s.arms ++ ars }, res1 rfl rfl, Dr.sat drqz, rfl, rfl⟩
end Go.Vl

namespace Go.Vl
open Go Go.Proofs
theorem img_getR {s : DevS} {q : Nat} (hw : WfD s) (hi : q / 64 < s.ls.length) : (imgS s)[q]? = (lb (seenL s.ls[q / 64]))[q % 64]? := by
  have hwl := hw.line _ (List.getElem_mem hi)
  have h8 := seen8 hwl
  have e := img_at hw.line hi
  have h1 : (imgS s)[q]? = ((imgS s).drop (q / 64 * 64))[q % 64]? := by rw [List.getElem?_drop]; congr 1; omega
  rw [h1]; unfold imgS; rw [e, List.getElem?_append_left oqz]
theorem fromS_len (n : Nat) (xs : List Nat) : (fromS n xs).ls.length = n := by simp [fromS, newS]
theorem fromS_at {n : Nat} (xs : List Nat) {i : Nat} (h : i < n) : (fromS n xs).ls[i]'(by rw [fromS_len]; exact h) = lineF xs i := by simp [fromS]
attribute [local irreducible] Sl pt ro
theorem rImage_f (A : SP) {r : Nat} {lv av : Value} {rls : List RL} {s : DevS} (hR : RdevR A r lv rls av s) :
    Fn Tryz.prog 16 #[.pointer (some ⟨r, 0, none⟩)] (A) (fun v B => ∃ X, B = A * X ∧ ∃ a c, v = .slice a (s.ls.length * 64) c ∧ s.ls.length * 64 ≤ c ∧ X = Sl 1 (.slice a (s.ls.length * 64) c) (s.ls.length * 64) (bys (imgS s))) := by
  refine fn_enterW (args := [.pointer (some ⟨r, 0, none⟩)]) Tryz.func16 rfl Tryz.ntmps16 (by simp) ?_
  obtain ⟨bl, ol, cl_, rfl, hlc, hlr⟩ := hR.lv
  have hlen := hR.len
  have htop := hR.wf.top
  refine sr ?_; refine tla ?_; refine nq ?_; refine sr ?_; refine tla ?_; refine nq ?_; refine tc_seq ?_; refine tc_seq ?_; refine tc_pre (A' := A * Sl 1 (.slice none 0 0) 0 []) (fun _ _ h => sl_nil h) ?_; refine tc_reg ?_; refine tla ?_; refine nq ?_; refine tc_block ?_; refine tc_loop (fun kk ρ BB => ∃ (i : Nat) (a3 : Option Addr) (c3 : Nat), (i ≤ s.ls.length) ∧ (i * 64 ≤ c3) ∧ kk = s.ls.length - i ∧ ρ 3 = .slice a3 (i * 64) c3 ∧ ρ 4 = .int .i64 (i : Nat) ∧ ρ 0 = .pointer (some ⟨r, 0, none⟩) ∧ BB = A * Sl 1 (.slice a3 (i * 64) c3) (i * 64) (bys (img (s.ls.take i)))) (m := s.ls.length - (0)) ?_ ?_
  · exact ⟨0, none, 0, by omega, by omega, rfl, rfl, rfl, rfl, rfl⟩
  · intro k ρ B hI
    obtain ⟨i, a3, c3, hp0, hp1, hkk1, hE3, hE4, hE0, rfl⟩ := hI
    refine tc_env (d := 3) hE3 ?_; refine tc_env (d := 4) hE4 ?_; refine tc_env (d := 0) hE0 ?_
    clear hE3 hE4 hE0
    refine tc_seq ?_; refine sr ?_; refine tlm ?_; refine tlm ?_; refine tv (o_nilCheck rfl) ?_; refine tv (o_fieldAddr (o := 1) Tryz.underlying55 rfl rfl sz52 rfl) ?_; refine tv (o_ldP (a := some ⟨r, 0, none⟩) (i := 1) p52 rfl (by repeat (first | exact hR.d | apply Rs.left)) rfl) ?_; refine tv (o_len Tryz.underlying52 rfl) ?_; refine tv (o_lss rfl rfl) ?_; refine nq ?_; refine tc_cond rfl (fun h => ?_) (fun h => ?_)
    · have hi : i < s.ls.length := by simp at h; omega
      have hir : i < rls.length := by omega
      obtain ⟨br, orr, cr, ht, hcr, hrr⟩ := hR.top hir hi
      have hs8 := seen8 (hR.wf.line _ (List.getElem_mem hi))
      refine tc_skip ?_; refine q_then_n ?_; refine tc_seq ?_; refine tc_block ?_; refine tc_reg ?_; refine tlm ?_; refine tlm ?_; refine tlm ?_; refine tl_c rfl (o_call bd54 rfl (rseen_f _ hR.left hir ht)) ?_; rintro _ _ ⟨rfl, rfl⟩; refine tl_x rfl (o_apR Tryz.underlying22 Tryz.underlying22 sz5 by5 z5 rfl (by decide) (by decide) rfl rfl ctqz hrr.left (by rw [bys_length, hs8]) (bys_all _) oqz rfl) ?_; rintro _ _ ⟨a18, c18, rfl, hc18, rfl⟩; refine tla ?_; refine tl_nil ?_; refine q_block_n (q_then_n ?_); refine tc_reg ?_; refine tlm ?_; refine tv adqz ?_; refine tla ?_; refine nq ?_; exact ⟨_, by omega, i + 1, a18, c18, by omega, by omega, rfl, by show Value.slice a18 (i * 64 + 64) c18 = _; rw [show (i + 1) * 64 = i * 64 + 64 by omega], rfl, rfl, by rw [img_take hi, bys_append, show (i + 1) * 64 = i * 64 + 64 by omega]⟩
    · obtain rfl : i = s.ls.length := by simp at h; omega
      rw [List.take_length]
      refine tc_exit ?_; refine q_then_e (q_then_e (q_block_x (q_then_n ?_))); refine sr ?_; refine tlm ?_; refine tla ?_; refine nq ?_; refine tc_ret ?_; exact ⟨.slice a3 (s.ls.length * 64) c3, _, res1 rfl rfl, fun _ _ h => h, _, rfl, a3, c3, rfl, hp1, rfl⟩
theorem rLoad_f (A : SP) {r : Nat} {lv av : Value} {rls : List RL} {s : DevS} (hR : RdevR A r lv rls av s) {p m : Nat} (hoff : s.off = false) (hpm : p + m ≤ s.ls.length * 64) :
    Fn Tryz.prog 73 #[.pointer (some ⟨r, 0, none⟩), .int .i64 (p : Nat), .int .i64 (m : Nat)] (A) (fun v B => ∃ X, B = A * X ∧ ∃ a c, v = .tuple #[.slice a m c, .int .i64 0] ∧ m ≤ c ∧ X = Sl 1 (.slice a m c) m (bys (((imgS s).drop p).take m))) := by
  refine fn_enterW (args := [.pointer (some ⟨r, 0, none⟩), .int .i64 (p : Nat), .int .i64 (m : Nat)]) Tryz.func73 rfl Tryz.ntmps73 (by simp) ?_
  obtain ⟨bl, ol, cl_, rfl, hlc, hlr⟩ := hR.lv
  have hlen := hR.len
  have htop := hR.wf.top
  have hil := img_length hR.wf.line
  refine sr ?_; refine tla ?_; refine tla ?_; refine nq ?_; refine tc_seq ?_; refine sr ?_; refine tlm ?_; refine tv (o_nilCheck rfl) ?_; refine tv (o_fieldAddr (o := 5) Tryz.underlying55 rfl rfl sz4 rfl) ?_; refine tv (o_ldP (a := some ⟨r, 0, none⟩) (i := 5) p4 rfl (by repeat (first | exact hR.d | apply Rs.left)) rfl) ?_; refine nq ?_; refine tc_cond rfl (fun h => ?_) (fun h => ?_)
  · exfalso; rw [hoff] at h; cases h
  · try simp only [lv1, lv2, lv3, lv4, lv5, lv6, Bool.not_true, Bool.not_false] at h
    refine tc_skip ?_; refine q_then_n ?_; refine tc_seq ?_; refine sr ?_; refine tlm ?_; refine tlm ?_; refine tlm ?_; refine tl_c rfl (o_call bd78 rfl (rinside_f _ hR oqz oqz)) ?_; rintro _ _ ⟨rfl, rfl⟩; refine tv (o_not rfl) ?_; refine nq ?_; refine tc_cond rfl (fun h => ?_) (fun h => ?_)
    · exfalso; simp at h; unfold rdy at h; rw [if_neg (by decide), if_neg oqz] at h; exact h rfl
    · try simp only [lv1, lv2, lv3, lv4, lv5, lv6, Bool.not_true, Bool.not_false] at h
      refine tc_skip ?_; refine q_then_n ?_; refine sr ?_; refine tla ?_; refine nq ?_; refine tc_seq ?_; refine tc_seq ?_; refine tc_pre (A' := A * Sl 1 (.slice none 0 0) 0 []) (fun _ _ h => sl_nil h) ?_; refine tc_reg ?_; refine tlm ?_; refine tla ?_; refine nq ?_; refine tc_block ?_; refine tc_loop (fun kk ρ BB => ∃ (j : Nat) (a3 : Option Addr) (c3 : Nat), (j ≤ m) ∧ (j ≤ c3) ∧ kk = m - j ∧ ρ 8 = .slice a3 j c3 ∧ ρ 9 = .int .i64 ((p + j : Nat) : Int) ∧ ρ 0 = .pointer (some ⟨r, 0, none⟩) ∧ ρ 1 = .int .i64 (p : Nat) ∧ ρ 2 = .int .i64 (m : Nat) ∧ BB = A * Sl 1 (.slice a3 j c3) j (bys (((imgS s).drop p).take j))) (m := m - (0)) ?_ ?_
      · exact ⟨0, none, 0, by omega, by omega, rfl, rfl, rfl, rfl, rfl, rfl, rfl⟩
      · intro k ρ B hI
        obtain ⟨j, a3, c3, hp0, hp1, hkk1, hE8, hE9, hE0, hE1, hE2, rfl⟩ := hI
        refine tc_env (d := 8) hE8 ?_; refine tc_env (d := 9) hE9 ?_; refine tc_env (d := 0) hE0 ?_; refine tc_env (d := 1) hE1 ?_; refine tc_env (d := 2) hE2 ?_
        clear hE8 hE9 hE0 hE1 hE2
        refine tc_seq ?_; refine sr ?_; refine tlm ?_; refine tlm ?_; refine tlm ?_; refine tv adqz ?_; refine tv (o_lss rfl rfl) ?_; refine nq ?_; refine tc_cond rfl (fun h => ?_) (fun h => ?_)
        · have hj : j < m := by simp at h; omega
          have hi : (p + j) / 64 < s.ls.length := by omega
          have hir : (p + j) / 64 < rls.length := by omega
          obtain ⟨br, orr, cr, ht, hcr, hrr⟩ := hR.top hir hi
          have hs8 := seen8 (hR.wf.line _ (List.getElem_mem hi))
          have hjd : j < ((imgS s).drop p).length := by rw [List.length_drop]; unfold imgS; omega
          have hby : ((imgS s).drop p)[j] = (lb (seenL s.ls[(p + j) / 64]))[(p + j) % 64]'(by omega) := by
            have := img_getR hR.wf hi
            rw [List.getElem?_eq_getElem (show (p + j) % 64 < (lb (seenL s.ls[(p + j) / 64])).length by omega), ← List.getElem?_drop, List.getElem?_eq_getElem hjd] at this
            exact Option.some.inj this
          refine tc_skip ?_; refine q_then_n ?_; refine tc_seq ?_; refine tc_block ?_; refine tc_reg ?_; refine tlm ?_; refine tlm ?_; refine tlm ?_; refine tv (o_quoN (b := 64) rfl rfl oqz) ?_; refine tl_c rfl (o_call bd54 rfl (rseen_f _ hR.left (i := (p + j) / 64) hir ht)) ?_; rintro _ _ ⟨rfl, rfl⟩; refine tlm ?_; refine tv (o_remN (b := 64) rfl rfl oqz) ?_; refine tv (o_ixP1 Tryz.underlying22 sz5 rfl rfl sq1z sq0z) ?_; refine tv (o_ldP p5 rfl hrr.left (bys_at oqz)) ?_; refine tl_x rfl (o_buildSlice1 Tryz.underlying22 sz5 z5 (by conv => lhs; whnf) rfl) ?_; rintro _ _ ⟨b36, rfl, rfl⟩; refine tl_x rfl (o_apB Tryz.underlying22 Tryz.underlying22 sz5 by5 z5 rfl (by decide) (by decide) rfl rfl rfl ctqz rfl (by first | exact bys_all _ | exact ints_all _ | exact wds_all _ | exact bos_all _ | rfl) sq1z (by first | exact bys_sn _ _ | exact ints_sn _ _ | exact wds_sn _ _ | exact bos_sn _ _ | exact (bys_append _ _).symm | rfl)) ?_
          rintro _ _ ⟨a37, c37, rfl, hc37, rfl⟩; refine tla ?_; refine tl_nil ?_; refine q_block_n (q_then_n ?_); refine tc_reg ?_; refine tlm ?_; refine tv adqz ?_; refine tl_env (d := 26) (v := .int .i64 ((p + (j + 1) : Nat) : Int)) (rfl) ?_; refine tla ?_; refine nq ?_; exact ⟨_, by omega, j + 1, a37, c37, by omega, by omega, rfl, rfl, rfl, rfl, rfl, rfl, by rw [List.take_succ_eq_append_getElem hjd, hby]⟩
        · obtain rfl : j = m := by simp at h; omega
          refine tc_exit ?_; refine q_then_e (q_then_e (q_block_x (q_then_n ?_))); refine sr ?_; refine tlm ?_; refine tla ?_; refine tla ?_; refine nq ?_; refine tc_ret ?_; exact ⟨.tuple #[.slice a3 j c3, .int .i64 0], _, res2 rfl rfl rfl, fun _ _ h => h, _, rfl, a3, c3, rfl, hp1, rfl⟩
set_option maxRecDepth 20000 in
set_option maxHeartbeats 1000000 in
theorem rFrom_c {F : SP} {a : Option Addr} {c m : Nat} {xs : List Nat} (n : Nat) (hr : Rs F a (bys xs) := by repeat (first | assumption | with_reducible exact rs_sl | with_reducible exact rs_pt0 | exact rs_none | apply Rs.left)) (hx : xs.length = m := by first | assumption | rfl) (hm : m = n * 64 := by omega) (hmc : m ≤ c := by omega) (hb : ∀ x ∈ xs, x < 256 := by assumption) (hn : 0 < n := by omega) (hn2 : n ≤ 65536 := by omega) :
    Fn Tryz.prog 7 #[.slice a m c] (F) (fun v B => ∃ d, v = .tuple #[.pointer (some ⟨d, 0, none⟩), .int .i64 0] ∧ B = F * RDev d (fromS n xs)) := by
  refine fn_enterW (args := [.slice a m c]) Tryz.func7 rfl Tryz.ntmps7 (by simp) ?_
  have hfit : fitsB (m : Int) = true := by unfold fitsB; simp; omega
  refine sr ?_; refine tla ?_; refine tla ?_; refine nq ?_; refine tc_seq ?_; refine sr ?_; refine tlm ?_; refine tv (o_len Tryz.underlying22 rfl) ?_; refine tl_c rfl (o_call bd21 rfl (rfits_c (p := (m : Nat)))) ?_; rintro _ _ ⟨rfl, rfl⟩; refine tv (o_not rfl) ?_; refine nq ?_; refine tc_cond rfl (fun h => ?_) (fun h => ?_)
  · exfalso; rw [hfit] at h; exact absurd h (by decide)
  · try simp only [lv1, lv2, lv3, lv4, lv5, lv6, Bool.not_true, Bool.not_false] at h
    refine tc_skip ?_; refine q_then_n ?_; refine sr ?_; refine tlm ?_; refine tv (o_len Tryz.underlying22 rfl) ?_; refine tv (o_bS (l := [.int .i64 (m : Nat), .slice none 0 0, .int .i64 0, .slice none 0 0, .int .i64 0, .bool false]) (pv_cons (by conv => lhs; whnf) pv_nil) Tryz.underlying55 z55 (pl55 Tryz.underlying55) rfl) ?_; refine tl_x rfl (o_box rfl rfl) ?_; rintro _ _ ⟨b13, rfl, rfl⟩; refine tl_pre (A' := F * Bs rlR [] * pt b13 (cl ([.int .i64 ((n * 64 : Nat) : Int), .slice none 0 0, .int .i64 0, .slice none 0 0, .int .i64 0, .bool false]) 55) * Sl 2 (.slice none 0 0) 0 []) (fun _ _ h => sl_nil (by rw [bs_nil, star_emp, ← hm]; exact h)) ?_; refine tla ?_; refine nq ?_; refine tc_seq ?_; refine sr ?_; refine tla ?_; refine nq ?_; refine tc_block ?_; refine tc_loop (fun kk ρ BB => ∃ (i : Nat) (aL : Option Addr) (cL : Nat) (rls1 : List RL), (i ≤ n) ∧ (rls1.map RL.l = (fromS n xs).ls.take i) ∧ kk = n - i ∧ ρ 5 = .int .i64 ((i * 64 : Nat) : Int) ∧ ρ 0 = .slice a m c ∧ ρ 4 = .pointer (some ⟨b13, 0, none⟩) ∧ BB = F * Bs rlR rls1 * pt b13 (cl ([.int .i64 ((n * 64 : Nat) : Int), .slice aL i cL, .int .i64 0, .slice none 0 0, .int .i64 0, .bool false]) 55) * Sl 2 (.slice aL i cL) i (rls1.flatMap rcl)) (m := n - (0)) ?_ ?_
    · exact ⟨0, none, 0, [], by omega, rfl, rfl, rfl, rfl, rfl, rfl⟩
    · intro k ρ B hI
      obtain ⟨i, aL, cL, rls1, hp0, hp1, hkk1, hE5, hE0, hE4, rfl⟩ := hI
      refine tc_env (d := 5) hE5 ?_; refine tc_env (d := 0) hE0 ?_; refine tc_env (d := 4) hE4 ?_
      clear hE5 hE0 hE4
      refine tc_seq ?_; refine sr ?_; refine tlm ?_; refine tlm ?_; refine tv (o_len Tryz.underlying22 rfl) ?_; refine tv (o_lss rfl rfl) ?_; refine nq ?_; refine tc_cond rfl (fun h => ?_) (fun h => ?_)
      · have hi : i < n := by simp at h; omega
        have hrl : rls1.length = i := by have := congrArg List.length hp1; rw [List.length_map, List.length_take, fromS_len] at this; omega
        have hxl : ((xs.drop (i * 64)).take 64).length = 64 := by rw [List.length_take, List.length_drop]; omega
        have hlf := lineF_lb hb (show i * 64 + 64 ≤ xs.length by omega)
        refine tc_skip ?_; refine q_then_n ?_; refine tc_seq ?_; refine tc_block ?_; refine tc_regh (S := F * Bs rlR rls1) mo drqz ?_
        show TH _ _ _ _ _ 18 #[ff,ff,ff,ff,ff,ff,ff,ff,ff,ff,ff,ff,ff,ff,ff,ff,ff,ff] _ _
        refine th_take (i := 0) (listed' := #[tt,ff,ff,ff,ff,ff,ff,ff,ff,ff,ff,ff,ff,ff,ff,ff,ff,ff]) rfl kqz kqz kqz rfl rfl (o_move (by conv => lhs; whnf)) ?_; refine th_take (i := 1) (listed' := #[tt,tt,ff,ff,ff,ff,ff,ff,ff,ff,ff,ff,ff,ff,ff,ff,ff,ff]) rfl kqz kqz kqz rfl rfl (o_move (by conv => lhs; whnf)) ?_; refine th_take (i := 2) (listed' := #[tt,tt,tt,ff,ff,ff,ff,ff,ff,ff,ff,ff,ff,ff,ff,ff,ff,ff]) rfl kqz kqz kqz rfl rfl (o_nilCheck rfl) ?_; refine th_take (i := 3) (listed' := #[tt,tt,tt,tt,ff,ff,ff,ff,ff,ff,ff,ff,ff,ff,ff,ff,ff,ff]) rfl kqz kqz kqz rfl rfl (o_fieldAddr (o := 1) Tryz.underlying55 rfl rfl sz52 rfl) ?_; refine th_take (i := 5) (listed' := #[tt,tt,tt,tt,ff,tt,ff,ff,ff,ff,ff,ff,ff,ff,ff,ff,ff,ff]) rfl kqz kqz kqz rfl rfl (o_move (by conv => lhs; whnf)) ?_; refine th_take (i := 6) (listed' := #[tt,tt,tt,tt,ff,tt,tt,ff,ff,ff,ff,ff,ff,ff,ff,ff,ff,ff]) rfl kqz kqz kqz rfl rfl (o_move (by conv => lhs; whnf)) ?_; refine th_take (i := 7) (listed' := #[tt,tt,tt,tt,ff,tt,tt,tt,ff,ff,ff,ff,ff,ff,ff,ff,ff,ff]) rfl kqz kqz kqz rfl rfl (o_move (by conv => lhs; whnf)) ?_; refine th_take (i := 8) (listed' := #[tt,tt,tt,tt,ff,tt,tt,tt,tt,ff,ff,ff,ff,ff,ff,ff,ff,ff]) rfl kqz kqz kqz rfl rfl (o_addI rfl rfl oqz) ?_
        refine th_env (d := 28) (v := .int .i64 ((i * 64 + 64 : Nat) : Int)) (rfl) ?_; refine th_take (i := 9) (listed' := #[tt,tt,tt,tt,ff,tt,tt,tt,tt,tt,ff,ff,ff,ff,ff,ff,ff,ff]) rfl kqz kqz kqz rfl rfl (o_slice (l := i * 64) (h := i * 64 + 64) Tryz.underlying22 sz5 rfl (bnd_nat rfl) (bnd_nat rfl) oqz oqz) ?_; refine th_env (d := 29) (v := .slice (cutAddr a c (i * 64) 1) 64 (c - i * 64)) (by show Value.slice _ (i * 64 + 64 - i * 64) _ = _; rw [Nat.add_sub_cancel_left]) ?_; refine th_two (i := 4) (j := 10) kqz ?_ ?_
        · skip
          refine oh_v (i := 4) (listed' := #[tt,tt,tt,tt,tt,tt,tt,tt,tt,tt,ff,ff,ff,ff,ff,ff,ff,ff]) rfl rfl rfl (o_load p52 rfl hsqz rfl) ?_; refine th_one (i := 10) kqz ?_; refine oh_c (i := 10) (listed' := #[tt,tt,tt,tt,tt,tt,tt,tt,tt,tt,tt,ff,ff,ff,ff,ff,ff,ff]) rfl rfl rfl (o_call bd6 rfl (CopyBytes_c (xs := (xs.drop (i * 64)).take 64) (hr := (by repeat (first | exact rs_mid hr oqz | apply Rs.left))) (hm := hxl))) ?_; rintro _ _ ⟨a30, c30, rfl, hc30, rfl⟩; refine ⟨by repeat (first | with_reducible exact dr_refl | apply dr_keep | apply dr_drop), ?_⟩; refine th_one (i := 11) kqz ?_; refine oh_x (i := 11) (listed' := #[tt,tt,tt,tt,tt,tt,tt,tt,tt,tt,tt,tt,ff,ff,ff,ff,ff,ff]) rfl rfl rfl (o_buildSlice1 Tryz.underlying75 sz22 z22 rfl rfl) ?_; rintro _ _ ⟨b31, rfl, rfl⟩; refine ⟨by repeat (first | with_reducible exact dr_refl | apply dr_keep | apply dr_drop), ?_⟩; refine th_take (i := 12) (listed' := #[tt,tt,tt,tt,tt,tt,tt,tt,tt,tt,tt,tt,tt,ff,ff,ff,ff,ff]) rfl kqz kqz kqz rfl rfl (o_bS (l := [_, _]) (pv_cons (by conv => lhs; whnf) (pv_cons (by conv => lhs; whnf) pv_nil)) Tryz.underlying77 z77 (pl77 Tryz.underlying77) rfl) ?_; refine th_one (i := 13) kqz ?_; refine oh_x (i := 13) (listed' := #[tt,tt,tt,tt,tt,tt,tt,tt,tt,tt,tt,tt,tt,tt,ff,ff,ff,ff]) rfl rfl rfl (o_buildSliceK (k := 2) (l := [.slice (some ⟨b31, 0, none⟩) 1 1, .int .i64 (-1)]) Tryz.underlying52 sz77 z77 rfl rfl (by decide)) ?_
          rintro _ _ ⟨b33, rfl, rfl⟩; refine ⟨by repeat (first | with_reducible exact dr_refl | apply dr_keep | apply dr_drop), ?_⟩; refine th_one (i := 14) kqz ?_; refine oh_x (i := 14) (listed' := #[tt,tt,tt,tt,tt,tt,tt,tt,tt,tt,tt,tt,tt,tt,tt,ff,ff,ff]) rfl rfl rfl (o_apB Tryz.underlying52 Tryz.underlying52 sz77 by77 z77 rfl (by decide) (by decide) rfl rfl rfl ctqz rfl rfl oqz (fm_sn rls1 ((⟨.slice (some ⟨b31, 0, none⟩) 1 1, [(.slice a30 64 c30, seenL (lineF xs i))], -1⟩ : RL)))) ?_; rintro _ _ ⟨a34, c34, rfl, hc34, rfl⟩; refine ⟨by repeat (first | with_reducible exact dr_refl | apply dr_keep | apply dr_drop), ?_⟩; refine th_take (i := 15) (listed' := #[tt,tt,tt,tt,tt,tt,tt,tt,tt,tt,tt,tt,tt,tt,tt,tt,ff,ff]) rfl kqz kqz kqz rfl rfl (o_nilCheck rfl) ?_; refine th_take (i := 16) (listed' := #[tt,tt,tt,tt,tt,tt,tt,tt,tt,tt,tt,tt,tt,tt,tt,tt,tt,ff]) rfl kqz kqz kqz rfl rfl (o_fieldAddr (o := 1) Tryz.underlying55 rfl rfl sz52 rfl) ?_; refine th_one (i := 17) kqz ?_; refine oh_u (i := 17) (listed' := #[tt,tt,tt,tt,tt,tt,tt,tt,tt,tt,tt,tt,tt,tt,tt,tt,tt,tt]) rfl rfl rfl (o_stU (l' := [.int .i64 ((n * 64 : Nat) : Int), .slice a34 (i + 1) c34, .int .i64 0, .slice none 0 0, .int .i64 0, .bool false]) rfl upqz sz52 rfl rfl (by show 1 < 6; decide) rfl) drqz ?_
          refine th_done kqz ?_; refine q_block_n (q_then_n ?_)
          have hnext : (rls1 ++ [(⟨.slice (some ⟨b31, 0, none⟩) 1 1, [(.slice a30 64 c30, seenL (lineF xs i))], -1⟩ : RL)]).map RL.l = (fromS n xs).ls.take (i + 1) := by
            rw [List.map_append, hp1, List.take_succ_eq_append_getElem (by rw [fromS_len]; exact hi), fromS_at xs hi]; rfl
          refine tc_pre (A' := F * Bs rlR (rls1 ++ [(⟨.slice (some ⟨b31, 0, none⟩) 1 1, [(.slice a30 64 c30, seenL (lineF xs i))], -1⟩ : RL)]) * pt b13 (cl ([.int .i64 ((n * 64 : Nat) : Int), .slice a34 (i + 1) c34, .int .i64 0, .slice none 0 0, .int .i64 0, .bool false]) 55) * Sl 2 (.slice a34 (i + 1) c34) (i + 1) ((rls1 ++ [(⟨.slice (some ⟨b31, 0, none⟩) 1 1, [(.slice a30 64 c30, seenL (lineF xs i))], -1⟩ : RL)]).flatMap rcl)) (fun _ _ h => ?_) ?_
          · have e : rlR (⟨.slice (some ⟨b31, 0, none⟩) 1 1, [(.slice a30 64 c30, seenL (lineF xs i))], -1⟩ : RL) = Sl 1 (.slice (some ⟨b31, 0, none⟩) 1 1) 1 [.slice a30 64 c30] * SlR 1 (.slice a30 64 c30) 64 (bys ((xs.drop (i * 64)).take 64)) := by
              show Sl 1 _ 1 [_] * Bs rowR [_] = _
              rw [bs_cons, bs_nil, emp_star]
              show _ * SlR 1 _ 64 (bys (lb (seenL (lineF xs i)))) = _
              rw [hlf]
            rw [bs_snoc, e]
            have h1 := sl_share (h.perm (show _ = F * Bs rlR rls1 * pt b13 (cl ([.int .i64 ((n * 64 : Nat) : Int), .slice a34 (i + 1) c34, .int .i64 0, .slice none 0 0, .int .i64 0, .bool false]) 55) * Sl 2 (.slice a34 (i + 1) c34) (i + 1) ((rls1 ++ [(⟨.slice (some ⟨b31, 0, none⟩) 1 1, [(.slice a30 64 c30, seenL (lineF xs i))], -1⟩ : RL)]).flatMap rcl) * pt b31 (cl [.slice a30 64 c30] 22) * Sl 1 (.slice a30 64 c30) 64 (bys ((xs.drop (i * 64)).take 64)) by ac_rfl))
            have h2 := sl_new (k := 1) (n := 1) (cap := 1) (xs := [.slice a30 64 c30]) (h1.perm (star_swap _ _ _)) (by decide) (Nat.le_refl _) rfl
            exact h2.perm (by ac_rfl)
          refine tc_reg ?_; refine tlm ?_; refine tv adqz ?_; refine tl_env (d := 19) (v := .int .i64 (((i + 1) * 64 : Nat) : Int)) (by show Value.int .i64 _ = _; congr 1; omega) ?_; refine tla ?_; refine nq ?_; exact ⟨_, by omega, i + 1, a34, c34, rls1 ++ [(⟨.slice (some ⟨b31, 0, none⟩) 1 1, [(.slice a30 64 c30, seenL (lineF xs i))], -1⟩ : RL)], by omega, hnext, rfl, rfl, rfl, rfl, rfl⟩
        · skip
          refine oh_c (i := 10) (listed' := #[tt,tt,tt,tt,ff,tt,tt,tt,tt,tt,tt,ff,ff,ff,ff,ff,ff,ff]) rfl rfl rfl (o_call bd6 rfl (CopyBytes_c (xs := (xs.drop (i * 64)).take 64) (hr := (by repeat (first | exact rs_mid hr oqz | apply Rs.left))) (hm := hxl))) ?_; rintro _ _ ⟨a30, c30, rfl, hc30, rfl⟩; refine ⟨by repeat (first | with_reducible exact dr_refl | apply dr_keep | apply dr_drop), ?_⟩; refine th_two (i := 4) (j := 11) kqz ?_ ?_
          · skip
            refine oh_v (i := 4) (listed' := #[tt,tt,tt,tt,tt,tt,tt,tt,tt,tt,tt,ff,ff,ff,ff,ff,ff,ff]) rfl rfl rfl (o_load p52 rfl hsqz rfl) ?_; refine th_one (i := 11) kqz ?_; refine oh_x (i := 11) (listed' := #[tt,tt,tt,tt,tt,tt,tt,tt,tt,tt,tt,tt,ff,ff,ff,ff,ff,ff]) rfl rfl rfl (o_buildSlice1 Tryz.underlying75 sz22 z22 rfl rfl) ?_; rintro _ _ ⟨b31, rfl, rfl⟩; refine ⟨by repeat (first | with_reducible exact dr_refl | apply dr_keep | apply dr_drop), ?_⟩; refine th_take (i := 12) (listed' := #[tt,tt,tt,tt,tt,tt,tt,tt,tt,tt,tt,tt,tt,ff,ff,ff,ff,ff]) rfl kqz kqz kqz rfl rfl (o_bS (l := [_, _]) (pv_cons (by conv => lhs; whnf) (pv_cons (by conv => lhs; whnf) pv_nil)) Tryz.underlying77 z77 (pl77 Tryz.underlying77) rfl) ?_; refine th_one (i := 13) kqz ?_; refine oh_x (i := 13) (listed' := #[tt,tt,tt,tt,tt,tt,tt,tt,tt,tt,tt,tt,tt,tt,ff,ff,ff,ff]) rfl rfl rfl (o_buildSliceK (k := 2) (l := [.slice (some ⟨b31, 0, none⟩) 1 1, .int .i64 (-1)]) Tryz.underlying52 sz77 z77 rfl rfl (by decide)) ?_; rintro _ _ ⟨b33, rfl, rfl⟩; refine ⟨by repeat (first | with_reducible exact dr_refl | apply dr_keep | apply dr_drop), ?_⟩; refine th_one (i := 14) kqz ?_; refine oh_x (i := 14) (listed' := #[tt,tt,tt,tt,tt,tt,tt,tt,tt,tt,tt,tt,tt,tt,tt,ff,ff,ff]) rfl rfl rfl (o_apB Tryz.underlying52 Tryz.underlying52 sz77 by77 z77 rfl (by decide) (by decide) rfl rfl rfl ctqz rfl rfl oqz (fm_sn rls1 ((⟨.slice (some ⟨b31, 0, none⟩) 1 1, [(.slice a30 64 c30, seenL (lineF xs i))], -1⟩ : RL)))) ?_
            rintro _ _ ⟨a34, c34, rfl, hc34, rfl⟩; refine ⟨by repeat (first | with_reducible exact dr_refl | apply dr_keep | apply dr_drop), ?_⟩; refine th_take (i := 15) (listed' := #[tt,tt,tt,tt,tt,tt,tt,tt,tt,tt,tt,tt,tt,tt,tt,tt,ff,ff]) rfl kqz kqz kqz rfl rfl (o_nilCheck rfl) ?_; refine th_take (i := 16) (listed' := #[tt,tt,tt,tt,tt,tt,tt,tt,tt,tt,tt,tt,tt,tt,tt,tt,tt,ff]) rfl kqz kqz kqz rfl rfl (o_fieldAddr (o := 1) Tryz.underlying55 rfl rfl sz52 rfl) ?_; refine th_one (i := 17) kqz ?_; refine oh_u (i := 17) (listed' := #[tt,tt,tt,tt,tt,tt,tt,tt,tt,tt,tt,tt,tt,tt,tt,tt,tt,tt]) rfl rfl rfl (o_stU (l' := [.int .i64 ((n * 64 : Nat) : Int), .slice a34 (i + 1) c34, .int .i64 0, .slice none 0 0, .int .i64 0, .bool false]) rfl upqz sz52 rfl rfl (by show 1 < 6; decide) rfl) drqz ?_; refine th_done kqz ?_; refine q_block_n (q_then_n ?_)
            have hnext : (rls1 ++ [(⟨.slice (some ⟨b31, 0, none⟩) 1 1, [(.slice a30 64 c30, seenL (lineF xs i))], -1⟩ : RL)]).map RL.l = (fromS n xs).ls.take (i + 1) := by
              rw [List.map_append, hp1, List.take_succ_eq_append_getElem (by rw [fromS_len]; exact hi), fromS_at xs hi]; rfl
            refine tc_pre (A' := F * Bs rlR (rls1 ++ [(⟨.slice (some ⟨b31, 0, none⟩) 1 1, [(.slice a30 64 c30, seenL (lineF xs i))], -1⟩ : RL)]) * pt b13 (cl ([.int .i64 ((n * 64 : Nat) : Int), .slice a34 (i + 1) c34, .int .i64 0, .slice none 0 0, .int .i64 0, .bool false]) 55) * Sl 2 (.slice a34 (i + 1) c34) (i + 1) ((rls1 ++ [(⟨.slice (some ⟨b31, 0, none⟩) 1 1, [(.slice a30 64 c30, seenL (lineF xs i))], -1⟩ : RL)]).flatMap rcl)) (fun _ _ h => ?_) ?_
            · have e : rlR (⟨.slice (some ⟨b31, 0, none⟩) 1 1, [(.slice a30 64 c30, seenL (lineF xs i))], -1⟩ : RL) = Sl 1 (.slice (some ⟨b31, 0, none⟩) 1 1) 1 [.slice a30 64 c30] * SlR 1 (.slice a30 64 c30) 64 (bys ((xs.drop (i * 64)).take 64)) := by
                show Sl 1 _ 1 [_] * Bs rowR [_] = _
                rw [bs_cons, bs_nil, emp_star]
                show _ * SlR 1 _ 64 (bys (lb (seenL (lineF xs i)))) = _
                rw [hlf]
              rw [bs_snoc, e]
              have h1 := sl_share (h.perm (show _ = F * Bs rlR rls1 * pt b13 (cl ([.int .i64 ((n * 64 : Nat) : Int), .slice a34 (i + 1) c34, .int .i64 0, .slice none 0 0, .int .i64 0, .bool false]) 55) * Sl 2 (.slice a34 (i + 1) c34) (i + 1) ((rls1 ++ [(⟨.slice (some ⟨b31, 0, none⟩) 1 1, [(.slice a30 64 c30, seenL (lineF xs i))], -1⟩ : RL)]).flatMap rcl) * pt b31 (cl [.slice a30 64 c30] 22) * Sl 1 (.slice a30 64 c30) 64 (bys ((xs.drop (i * 64)).take 64)) by ac_rfl))
              have h2 := sl_new (k := 1) (n := 1) (cap := 1) (xs := [.slice a30 64 c30]) (h1.perm (star_swap _ _ _)) (by decide) (Nat.le_refl _) rfl
              exact h2.perm (by ac_rfl)
            refine tc_reg ?_; refine tlm ?_; refine tv adqz ?_; refine tl_env (d := 19) (v := .int .i64 (((i + 1) * 64 : Nat) : Int)) (by show Value.int .i64 _ = _; congr 1; omega) ?_; refine tla ?_; refine nq ?_; exact ⟨_, by omega, i + 1, a34, c34, rls1 ++ [(⟨.slice (some ⟨b31, 0, none⟩) 1 1, [(.slice a30 64 c30, seenL (lineF xs i))], -1⟩ : RL)], by omega, hnext, rfl, rfl, rfl, rfl, rfl⟩
          · skip
            refine oh_x (i := 11) (listed' := #[tt,tt,tt,tt,ff,tt,tt,tt,tt,tt,tt,tt,ff,ff,ff,ff,ff,ff]) rfl rfl rfl (o_buildSlice1 Tryz.underlying75 sz22 z22 rfl rfl) ?_; rintro _ _ ⟨b31, rfl, rfl⟩; refine ⟨by repeat (first | with_reducible exact dr_refl | apply dr_keep | apply dr_drop), ?_⟩; refine th_take (i := 12) (listed' := #[tt,tt,tt,tt,ff,tt,tt,tt,tt,tt,tt,tt,tt,ff,ff,ff,ff,ff]) rfl kqz kqz kqz rfl rfl (o_bS (l := [_, _]) (pv_cons (by conv => lhs; whnf) (pv_cons (by conv => lhs; whnf) pv_nil)) Tryz.underlying77 z77 (pl77 Tryz.underlying77) rfl) ?_; refine th_two (i := 4) (j := 13) kqz ?_ ?_
            · skip
              refine oh_v (i := 4) (listed' := #[tt,tt,tt,tt,tt,tt,tt,tt,tt,tt,tt,tt,tt,ff,ff,ff,ff,ff]) rfl rfl rfl (o_load p52 rfl hsqz rfl) ?_; refine th_one (i := 13) kqz ?_; refine oh_x (i := 13) (listed' := #[tt,tt,tt,tt,tt,tt,tt,tt,tt,tt,tt,tt,tt,tt,ff,ff,ff,ff]) rfl rfl rfl (o_buildSliceK (k := 2) (l := [.slice (some ⟨b31, 0, none⟩) 1 1, .int .i64 (-1)]) Tryz.underlying52 sz77 z77 rfl rfl (by decide)) ?_; rintro _ _ ⟨b33, rfl, rfl⟩; refine ⟨by repeat (first | with_reducible exact dr_refl | apply dr_keep | apply dr_drop), ?_⟩; refine th_one (i := 14) kqz ?_; refine oh_x (i := 14) (listed' := #[tt,tt,tt,tt,tt,tt,tt,tt,tt,tt,tt,tt,tt,tt,tt,ff,ff,ff]) rfl rfl rfl (o_apB Tryz.underlying52 Tryz.underlying52 sz77 by77 z77 rfl (by decide) (by decide) rfl rfl rfl ctqz rfl rfl oqz (fm_sn rls1 ((⟨.slice (some ⟨b31, 0, none⟩) 1 1, [(.slice a30 64 c30, seenL (lineF xs i))], -1⟩ : RL)))) ?_; rintro _ _ ⟨a34, c34, rfl, hc34, rfl⟩; refine ⟨by repeat (first | with_reducible exact dr_refl | apply dr_keep | apply dr_drop), ?_⟩; refine th_take (i := 15) (listed' := #[tt,tt,tt,tt,tt,tt,tt,tt,tt,tt,tt,tt,tt,tt,tt,tt,ff,ff]) rfl kqz kqz kqz rfl rfl (o_nilCheck rfl) ?_
              refine th_take (i := 16) (listed' := #[tt,tt,tt,tt,tt,tt,tt,tt,tt,tt,tt,tt,tt,tt,tt,tt,tt,ff]) rfl kqz kqz kqz rfl rfl (o_fieldAddr (o := 1) Tryz.underlying55 rfl rfl sz52 rfl) ?_; refine th_one (i := 17) kqz ?_; refine oh_u (i := 17) (listed' := #[tt,tt,tt,tt,tt,tt,tt,tt,tt,tt,tt,tt,tt,tt,tt,tt,tt,tt]) rfl rfl rfl (o_stU (l' := [.int .i64 ((n * 64 : Nat) : Int), .slice a34 (i + 1) c34, .int .i64 0, .slice none 0 0, .int .i64 0, .bool false]) rfl upqz sz52 rfl rfl (by show 1 < 6; decide) rfl) drqz ?_; refine th_done kqz ?_; refine q_block_n (q_then_n ?_)
              have hnext : (rls1 ++ [(⟨.slice (some ⟨b31, 0, none⟩) 1 1, [(.slice a30 64 c30, seenL (lineF xs i))], -1⟩ : RL)]).map RL.l = (fromS n xs).ls.take (i + 1) := by
                rw [List.map_append, hp1, List.take_succ_eq_append_getElem (by rw [fromS_len]; exact hi), fromS_at xs hi]; rfl
              refine tc_pre (A' := F * Bs rlR (rls1 ++ [(⟨.slice (some ⟨b31, 0, none⟩) 1 1, [(.slice a30 64 c30, seenL (lineF xs i))], -1⟩ : RL)]) * pt b13 (cl ([.int .i64 ((n * 64 : Nat) : Int), .slice a34 (i + 1) c34, .int .i64 0, .slice none 0 0, .int .i64 0, .bool false]) 55) * Sl 2 (.slice a34 (i + 1) c34) (i + 1) ((rls1 ++ [(⟨.slice (some ⟨b31, 0, none⟩) 1 1, [(.slice a30 64 c30, seenL (lineF xs i))], -1⟩ : RL)]).flatMap rcl)) (fun _ _ h => ?_) ?_
              · have e : rlR (⟨.slice (some ⟨b31, 0, none⟩) 1 1, [(.slice a30 64 c30, seenL (lineF xs i))], -1⟩ : RL) = Sl 1 (.slice (some ⟨b31, 0, none⟩) 1 1) 1 [.slice a30 64 c30] * SlR 1 (.slice a30 64 c30) 64 (bys ((xs.drop (i * 64)).take 64)) := by
                  show Sl 1 _ 1 [_] * Bs rowR [_] = _
                  rw [bs_cons, bs_nil, emp_star]
                  show _ * SlR 1 _ 64 (bys (lb (seenL (lineF xs i)))) = _
                  rw [hlf]
                rw [bs_snoc, e]
                have h1 := sl_share (h.perm (show _ = F * Bs rlR rls1 * pt b13 (cl ([.int .i64 ((n * 64 : Nat) : Int), .slice a34 (i + 1) c34, .int .i64 0, .slice none 0 0, .int .i64 0, .bool false]) 55) * Sl 2 (.slice a34 (i + 1) c34) (i + 1) ((rls1 ++ [(⟨.slice (some ⟨b31, 0, none⟩) 1 1, [(.slice a30 64 c30, seenL (lineF xs i))], -1⟩ : RL)]).flatMap rcl) * pt b31 (cl [.slice a30 64 c30] 22) * Sl 1 (.slice a30 64 c30) 64 (bys ((xs.drop (i * 64)).take 64)) by ac_rfl))
                have h2 := sl_new (k := 1) (n := 1) (cap := 1) (xs := [.slice a30 64 c30]) (h1.perm (star_swap _ _ _)) (by decide) (Nat.le_refl _) rfl
                exact h2.perm (by ac_rfl)
              refine tc_reg ?_; refine tlm ?_; refine tv adqz ?_; refine tl_env (d := 19) (v := .int .i64 (((i + 1) * 64 : Nat) : Int)) (by show Value.int .i64 _ = _; congr 1; omega) ?_; refine tla ?_; refine nq ?_; exact ⟨_, by omega, i + 1, a34, c34, rls1 ++ [(⟨.slice (some ⟨b31, 0, none⟩) 1 1, [(.slice a30 64 c30, seenL (lineF xs i))], -1⟩ : RL)], by omega, hnext, rfl, rfl, rfl, rfl, rfl⟩
            · skip
              refine oh_x (i := 13) (listed' := #[tt,tt,tt,tt,ff,tt,tt,tt,tt,tt,tt,tt,tt,tt,ff,ff,ff,ff]) rfl rfl rfl (o_buildSliceK (k := 2) (l := [.slice (some ⟨b31, 0, none⟩) 1 1, .int .i64 (-1)]) Tryz.underlying52 sz77 z77 rfl rfl (by decide)) ?_; rintro _ _ ⟨b33, rfl, rfl⟩; refine ⟨by repeat (first | with_reducible exact dr_refl | apply dr_keep | apply dr_drop), ?_⟩; refine th_one (i := 4) kqz ?_; refine oh_v (i := 4) (listed' := #[tt,tt,tt,tt,tt,tt,tt,tt,tt,tt,tt,tt,tt,tt,ff,ff,ff,ff]) rfl rfl rfl (o_load p52 rfl hsqz rfl) ?_; refine th_one (i := 14) kqz ?_; refine oh_x (i := 14) (listed' := #[tt,tt,tt,tt,tt,tt,tt,tt,tt,tt,tt,tt,tt,tt,tt,ff,ff,ff]) rfl rfl rfl (o_apB Tryz.underlying52 Tryz.underlying52 sz77 by77 z77 rfl (by decide) (by decide) rfl rfl rfl ctqz rfl rfl oqz (fm_sn rls1 ((⟨.slice (some ⟨b31, 0, none⟩) 1 1, [(.slice a30 64 c30, seenL (lineF xs i))], -1⟩ : RL)))) ?_; rintro _ _ ⟨a34, c34, rfl, hc34, rfl⟩; refine ⟨by repeat (first | with_reducible exact dr_refl | apply dr_keep | apply dr_drop), ?_⟩; refine th_take (i := 15) (listed' := #[tt,tt,tt,tt,tt,tt,tt,tt,tt,tt,tt,tt,tt,tt,tt,tt,ff,ff]) rfl kqz kqz kqz rfl rfl (o_nilCheck rfl) ?_
              refine th_take (i := 16) (listed' := #[tt,tt,tt,tt,tt,tt,tt,tt,tt,tt,tt,tt,tt,tt,tt,tt,tt,ff]) rfl kqz kqz kqz rfl rfl (o_fieldAddr (o := 1) Tryz.underlying55 rfl rfl sz52 rfl) ?_; refine th_one (i := 17) kqz ?_; refine oh_u (i := 17) (listed' := #[tt,tt,tt,tt,tt,tt,tt,tt,tt,tt,tt,tt,tt,tt,tt,tt,tt,tt]) rfl rfl rfl (o_stU (l' := [.int .i64 ((n * 64 : Nat) : Int), .slice a34 (i + 1) c34, .int .i64 0, .slice none 0 0, .int .i64 0, .bool false]) rfl upqz sz52 rfl rfl (by show 1 < 6; decide) rfl) drqz ?_; refine th_done kqz ?_; refine q_block_n (q_then_n ?_)
              have hnext : (rls1 ++ [(⟨.slice (some ⟨b31, 0, none⟩) 1 1, [(.slice a30 64 c30, seenL (lineF xs i))], -1⟩ : RL)]).map RL.l = (fromS n xs).ls.take (i + 1) := by
                rw [List.map_append, hp1, List.take_succ_eq_append_getElem (by rw [fromS_len]; exact hi), fromS_at xs hi]; rfl
              refine tc_pre (A' := F * Bs rlR (rls1 ++ [(⟨.slice (some ⟨b31, 0, none⟩) 1 1, [(.slice a30 64 c30, seenL (lineF xs i))], -1⟩ : RL)]) * pt b13 (cl ([.int .i64 ((n * 64 : Nat) : Int), .slice a34 (i + 1) c34, .int .i64 0, .slice none 0 0, .int .i64 0, .bool false]) 55) * Sl 2 (.slice a34 (i + 1) c34) (i + 1) ((rls1 ++ [(⟨.slice (some ⟨b31, 0, none⟩) 1 1, [(.slice a30 64 c30, seenL (lineF xs i))], -1⟩ : RL)]).flatMap rcl)) (fun _ _ h => ?_) ?_
              · have e : rlR (⟨.slice (some ⟨b31, 0, none⟩) 1 1, [(.slice a30 64 c30, seenL (lineF xs i))], -1⟩ : RL) = Sl 1 (.slice (some ⟨b31, 0, none⟩) 1 1) 1 [.slice a30 64 c30] * SlR 1 (.slice a30 64 c30) 64 (bys ((xs.drop (i * 64)).take 64)) := by
                  show Sl 1 _ 1 [_] * Bs rowR [_] = _
                  rw [bs_cons, bs_nil, emp_star]
                  show _ * SlR 1 _ 64 (bys (lb (seenL (lineF xs i)))) = _
                  rw [hlf]
                rw [bs_snoc, e]
                have h1 := sl_share (h.perm (show _ = F * Bs rlR rls1 * pt b13 (cl ([.int .i64 ((n * 64 : Nat) : Int), .slice a34 (i + 1) c34, .int .i64 0, .slice none 0 0, .int .i64 0, .bool false]) 55) * Sl 2 (.slice a34 (i + 1) c34) (i + 1) ((rls1 ++ [(⟨.slice (some ⟨b31, 0, none⟩) 1 1, [(.slice a30 64 c30, seenL (lineF xs i))], -1⟩ : RL)]).flatMap rcl) * pt b31 (cl [.slice a30 64 c30] 22) * Sl 1 (.slice a30 64 c30) 64 (bys ((xs.drop (i * 64)).take 64)) by ac_rfl))
                have h2 := sl_new (k := 1) (n := 1) (cap := 1) (xs := [.slice a30 64 c30]) (h1.perm (star_swap _ _ _)) (by decide) (Nat.le_refl _) rfl
                exact h2.perm (by ac_rfl)
              refine tc_reg ?_; refine tlm ?_; refine tv adqz ?_; refine tl_env (d := 19) (v := .int .i64 (((i + 1) * 64 : Nat) : Int)) (by show Value.int .i64 _ = _; congr 1; omega) ?_; refine tla ?_; refine nq ?_; exact ⟨_, by omega, i + 1, a34, c34, rls1 ++ [(⟨.slice (some ⟨b31, 0, none⟩) 1 1, [(.slice a30 64 c30, seenL (lineF xs i))], -1⟩ : RL)], by omega, hnext, rfl, rfl, rfl, rfl, rfl⟩
      · obtain rfl : i = n := by simp at h; omega
        rw [List.take_of_length_le (by rw [fromS_len]; exact Nat.le_refl _)] at hp1
        refine tc_exit ?_; refine q_then_e (q_then_e (q_block_x (q_then_n ?_))); refine sr ?_; refine tlm ?_; refine tla ?_; refine tla ?_; refine nq ?_; refine tc_ret ?_; refine ⟨.tuple #[.pointer (some ⟨b13, 0, none⟩), .int .i64 0], F * RDev b13 (fromS i xs), res2 rfl rfl rfl, fun _ _ h => ?_, b13, rfl, rfl⟩; refine rdev_back (lv := .slice aL i cL) (rls := rls1) (av := .slice none 0 0) (kvs := []) (fromS_wf hn hn2 hb) hp1 rfl _ _ ?_
        have h1 := sl_nil (k := 2) h
        refine h1.perm ?_
        unfold RDevC ArmsR rdcs
        rw [fromS_len]
        show _ = F * (_ * _ * _ * (Sl 2 (.slice none 0 0) 0 [] * emp))
        rw [star_emp]
        rw [show (fromS i xs).ops = 0 from rfl, show (fromS i xs).cnt = 0 from rfl, show (fromS i xs).off = false from rfl]
        ac_rfl
theorem rStore8_c {A R : SP} {C : SP → SP} {r : Nat} {s : DevS} (hc : Ct A (RDev r s) R C := by repeat (first | with_reducible exact ct_here | apply ct_left)) {v : Nat} {p : Int} (hp : -9223372036854775808 ≤ p ∧ p ≤ 9223372036854775807 := by omega) (hv : v < 18446744073709551616 := by omega) (hroom : Room 1 s := by assumption) :
    Fn Tryz.prog 50 #[.pointer (some ⟨r, 0, none⟩), .int .i64 p, .int .u64 (v : Nat)] A (fun r_ B => ∃ e s2, st8 p v s = (e, s2) ∧ r_ = .int .i64 e ∧ B = C (RDev r s2)) := by
  obtain ⟨rfl, hC⟩ := hc
  exact (rStore8_f R hp hv hroom).mono fun _ _ h => ⟨(st8 p v s).1, (st8 p v s).2, rfl, h.1, by rw [hC]; exact h.2⟩
theorem rFlush_c {A R : SP} {C : SP → SP} {r : Nat} {s : DevS} (hc : Ct A (RDev r s) R C := by repeat (first | with_reducible exact ct_here | apply ct_left)) {p : Int} (hp : -9223372036854775808 ≤ p ∧ p ≤ 9223372036854775807 := by omega) :
    Fn Tryz.prog 39 #[.pointer (some ⟨r, 0, none⟩), .int .i64 p] A (fun r_ B => ∃ e s2, fl1 p s = (e, s2) ∧ r_ = .int .i64 e ∧ B = C (RDev r s2)) := by
  obtain ⟨rfl, hC⟩ := hc
  exact (rFlush_f R hp).mono fun _ _ h => ⟨(fl1 p s).1, (fl1 p s).2, rfl, h.1, by rw [hC]; exact h.2⟩
theorem rFence_c {A R : SP} {C : SP → SP} {r : Nat} {s : DevS} (hc : Ct A (RDev r s) R C := by repeat (first | with_reducible exact ct_here | apply ct_left))  :
    Fn Tryz.prog 41 #[.pointer (some ⟨r, 0, none⟩)] A (fun r_ B => ∃ e s2, fe s = (e, s2) ∧ r_ = .int .i64 e ∧ B = C (RDev r s2)) := by
  obtain ⟨rfl, hC⟩ := hc
  exact (rFence_f R).mono fun _ _ h => ⟨(fe s).1, (fe s).2, rfl, h.1, by rw [hC]; exact h.2⟩
theorem rWake_c {A R : SP} {C : SP → SP} {r : Nat} {s : DevS} (hc : Ct A (RDev r s) R C := by repeat (first | with_reducible exact ct_here | apply ct_left))  :
    Fn Tryz.prog 46 #[.pointer (some ⟨r, 0, none⟩)] A (fun r_ B => r_ = .int .i64 (if s.off then 0 else 3) ∧ B = C (RDev r { s with off := false })) := by
  obtain ⟨rfl, hC⟩ := hc
  exact (rWake_f R).mono fun _ _ h => ⟨h.1, by rw [hC]; exact h.2⟩
theorem rCrash_c {A R : SP} {C : SP → SP} {r : Nat} {s : DevS} (hc : Ct A (RDev r s) R C := by repeat (first | with_reducible exact ct_here | apply ct_left)) {a : Option Addr} {c m : Nat} {keep : List Int} (hr : Rs R a (ints keep) := by repeat (first | assumption | with_reducible exact rs_sl | with_reducible exact rs_pt0 | exact rs_none | apply Rs.left)) (hk : ∀ k ∈ keep, k ≤ 9223372036854775807 := by assumption) (hm : keep.length = m := by first | assumption | rfl) (hkl : m ≤ 17592186044416 := by omega) :
    Fn Tryz.prog 44 #[.pointer (some ⟨r, 0, none⟩), .slice a m c] A (fun r_ B => ∃ e s2, crS keep s = (e, s2) ∧ r_ = .int .i64 e ∧ B = C (RDev r s2)) := by
  obtain ⟨rfl, hC⟩ := hc
  exact (rCrash_f R hr hk hm hkl).mono fun _ _ h => ⟨(crS keep s).1, (crS keep s).2, rfl, h.1, by rw [hC]; exact h.2⟩
theorem rStore_c {A R : SP} {C : SP → SP} {r : Nat} {s : DevS} (hc : Ct A (RDev r s) R C := by repeat (first | with_reducible exact ct_here | apply ct_left)) {a : Option Addr} {c m : Nat} {p : Int} {xs : List Nat} (hr : Rs R a (bys xs) := by repeat (first | assumption | with_reducible exact rs_sl | with_reducible exact rs_pt0 | exact rs_none | apply Rs.left)) (hm : xs.length = m := by first | assumption | rfl) (hmc : m ≤ c := by first | assumption | omega) (hb : ∀ x ∈ xs, x < 256 := by assumption) (hml : m ≤ 140737488351232 := by omega) (hp : -9223372036854775808 ≤ p ∧ p ≤ 9223372036854775807 := by omega) (hroom : rdy s.ls.length s.off p m = 0 → Room m s := by assumption) :
    Fn Tryz.prog 37 #[.pointer (some ⟨r, 0, none⟩), .int .i64 p, .slice a m c] A (fun r_ B => ∃ e s2, sto p xs s = (e, s2) ∧ r_ = .int .i64 e ∧ B = C (RDev r s2)) := by
  obtain ⟨rfl, hC⟩ := hc
  exact (rStoreW_f R hr hm hmc hb hml hp hroom).mono fun _ _ h => ⟨(sto p xs s).1, (sto p xs s).2, rfl, h.1, by rw [hC]; exact h.2⟩
theorem rArm_c {A R : SP} {C : SP → SP} {r : Nat} {s : DevS} (hc : Ct A (RDev r s) R C := by repeat (first | with_reducible exact ct_here | apply ct_left)) {a : Option Addr} {c m : Nat} {kvs : List Value} {ars : List (Int × List Int)} (hr : RdA R a kvs ars) (hm : ars.length = m := by first | assumption | rfl) (hl : m ≤ 17592186044416 := by omega) (hk : ∀ x ∈ ars, (-9223372036854775808 ≤ x.1 ∧ x.1 ≤ 9223372036854775807) ∧ x.2.length ≤ 17592186044416 ∧ ∀ k ∈ x.2, k ≤ 9223372036854775807) :
    Fn Tryz.prog 48 #[.pointer (some ⟨r, 0, none⟩), .slice a m c] A (fun r_ B => ∃ e s2, armS ars s = (e, s2) ∧ r_ = .int .i64 e ∧ B = C (RDev r s2)) := by
  obtain ⟨rfl, hC⟩ := hc
  exact (rArm_f R hr hm hl hk).mono fun _ _ h => ⟨(armS ars s).1, (armS ars s).2, rfl, h.1, by rw [hC]; exact h.2⟩
theorem rImage_c {A R : SP} {C : SP → SP} {r : Nat} {s : DevS} (hc : Ct A (RDev r s) R C := by repeat (first | with_reducible exact ct_here | apply ct_left))  :
    Fn Tryz.prog 16 #[.pointer (some ⟨r, 0, none⟩)] A (fun v B => ∃ a c, v = .slice a (s.ls.length * 64) c ∧ s.ls.length * 64 ≤ c ∧ B = A * Sl 1 (.slice a (s.ls.length * 64) c) (s.ls.length * 64) (bys (imgS s))) := by
  obtain ⟨rfl, hC⟩ := hc
  exact (fn_rdevR (q := fun v X => ∃ a c, v = .slice a (s.ls.length * 64) c ∧ s.ls.length * 64 ≤ c ∧ X = Sl 1 (.slice a (s.ls.length * 64) c) (s.ls.length * 64) (bys (imgS s))) fun A lv rls av hR => rImage_f A hR).mono fun v B ⟨X, e, a, c, h1, h2, h3⟩ => ⟨a, c, h1, h2, by rw [e, h3]⟩
theorem rLoad_c {A R : SP} {C : SP → SP} {r : Nat} {s : DevS} (hc : Ct A (RDev r s) R C := by repeat (first | with_reducible exact ct_here | apply ct_left)) {p m : Nat} (hoff : s.off = false := by assumption) (hpm : p + m ≤ s.ls.length * 64 := by omega) :
    Fn Tryz.prog 73 #[.pointer (some ⟨r, 0, none⟩), .int .i64 (p : Nat), .int .i64 (m : Nat)] A (fun v B => ∃ a c, v = .tuple #[.slice a m c, .int .i64 0] ∧ m ≤ c ∧ B = A * Sl 1 (.slice a m c) m (bys (((imgS s).drop p).take m))) := by
  obtain ⟨rfl, hC⟩ := hc
  exact (fn_rdevR (q := fun v X => ∃ a c, v = .tuple #[.slice a m c, .int .i64 0] ∧ m ≤ c ∧ X = Sl 1 (.slice a m c) m (bys (((imgS s).drop p).take m))) fun A lv rls av hR => rLoad_f A hR hoff hpm).mono fun v B ⟨X, e, a, c, h1, h2, h3⟩ => ⟨a, c, h1, h2, by rw [e, h3]⟩
end Go.Vl

namespace Go.Vl
open Go Go.Proofs
theorem Foc.words {A A' : SP} {hvs : List Value} {held : List (List Nat)} (h : Foc A (Words hvs held) (Words hvs held) A') (hl : hvs.length = held.length) {g : Gh} {w : World} (hs : sat g w A) :
    ∀ i (hi : i < held.length), ∃ a c, hvs[i]? = some (.slice a held[i].length c) ∧ Rd A a (wds held[i]) := fun i hi => by
  obtain ⟨R, hA, _⟩ := h
  obtain ⟨S, h1, _⟩ := words_get hl hi
  rw [h1, ← star_assoc] at hA
  obtain ⟨a, c, e, _, _, hr⟩ := sl_have' hA hs
  exact ⟨a, c, by rw [List.getElem?_eq_getElem oqz, e], hr⟩
/-- What PmemLasts looks at, of a book and a device behind a loss of power. -/
structure Lasts (P : PlS) (s2 : DevS) : Prop where
  len : s2.ls.length = P.marks.length
  wf : WfD s2
  wfp : WfD P.s
  seen : ∀ i (h : i < P.seen.length), nm (((imgS P.s).drop (8 * i)).take 8) = P.seen[i]
  held : ∀ i (h : i < P.held.length), nm (((imgS s2).drop (8 * i)).take 8) ∈ P.held[i]
  last : ∀ i (h : i < P.sure.length) (h' : i < P.last.length), P.sure[i] = true → nm (((imgS s2).drop (8 * i)).take 8) = P.last[i]
end Go.Vl

namespace Go.Vl
open Go Go.Proofs
/-- The book tells the device. -/
structure InvL (P : PlS) (w : Nat) (l : LineS) : Prop where
  seen : (seenL l).getD (w % 8) 0 = P.seen.getD w 0
  held : ∀ σ ∈ l.st, σ.getD (w % 8) 0 ∈ P.held.getD w []
  last : P.sure.getD w false = true → ∀ σ ∈ l.st, σ.getD (w % 8) 0 = P.last.getD w 0
  mark : P.marks.getD (w / 8) 0 = 1 → l.mark = (l.st.length : Int) - 1
def Inv (P : PlS) : Prop := ∀ w l, w < P.seen.length → P.s.ls[w / 8]? = some l → InvL P w l
end Go.Vl

namespace Go.Vl
open Go Go.Proofs
instance : Inhabited StepC := ⟨⟨0, 0, .bool false, 0, .bool false, .bool false, .bool false⟩⟩
end Go.Vl

namespace Go.Vl
open Go Go.Proofs
theorem wfR_ct {A R : SP} {C : SP → SP} {r : Nat} {s : DevS} (hc : Ct A (RDev r s) R C) {g : Gh} {w : World} (hs : sat g w A) : WfD s := by
  obtain ⟨rfl, _⟩ := hc; exact (rdev_iff.1 hs).1
theorem nm_snocr (x : Nat) (l : List Nat) : nm (x :: l) = x + 256 * nm l := rfl
theorem nm_bound {l : List Nat} (h : ∀ x ∈ l, x < 256) (hl : l.length ≤ 8) : nm l < 18446744073709551616 := Nat.lt_of_lt_of_le (nm_lt l h) (by calc 256 ^ l.length ≤ 256 ^ 8 := Nat.pow_le_pow_right (by decide) hl
  _ = 18446744073709551616 := by decide)
end Go.Vl

namespace Go.Vl
open Go Go.Proofs
section
variable {P : Program} {n : Nat} {ρ : Env} {dst : Option Nat} {ty : TypeId} {pos : String} {after : Array Edge} {gd : Option (Nat × Bool)} {A : SP}
end
def rdT (n : Nat) (I : List Nat) : List Int × Int := if I.take 64 = sbB [n, 128, 32768, 32896, (n - 32896) / 256, 0] then ([(n : Int), ((128 : Nat) : Int), ((32768 : Nat) : Int), ((32896 : Nat) : Int), (((n - 32896) / 256 : Nat) : Int)], 0) else ([0, 0, 0, 0, 0], 100)
end Go.Vl

namespace Go.Vl
open Go Go.Proofs
def wk1 : DevS := (bytesP 60 [1, 1, 1, 1, 1, 1, 1, 1] (newS 2)).2
def wk2 : DevS := (pubP 8 258 wk1).2
def wk3 : DevS := (crS [] wk2).2
def wk4 : DevS := { wk3 with off := false }
def nk1 : DevS := (crS [] (newS 1)).2
end Go.Vl

namespace Go.Vl
open Go Go.Proofs
/-- The mark of a place. -/
def mk (i k : Nat) : Nat := (i * 31 + k * 7 + 1) % 256
/-- The marks of a list. -/
def mks (i n : Nat) : List Nat := (List.range n).map (mk i)
def mkL (j : Nat) (l : List Nat) : List Nat := mks j l.length
/-- Lists that bear their marks; the first of them is number j. -/
def PM : Nat → List Value → List Nat → SP
  | j, v :: vs, n :: ns => PM (j + 1) vs ns * Sl 1 v n (bys (mks j n))
  | _, [], [] => emp
  | _, _, _ => pure_ False
/-- Such lists, and what they were grown to. -/
def GP : Nat → List Value → List Value → List Nat → SP
  | j, v :: vs, g :: gs, n :: ns => GP (j + 1) vs gs ns * Gr v n (bys (mks j n)) g (n + 70) (bys (mks j (n + 70)))
  | _, [], [], [] => emp
  | _, _, _, _ => pure_ False
end Go.Vl

namespace Go.Vl
open Go Go.Proofs
/-- What Read and Root answer. -/
def rdA (s : DevS) : List Int × Int := if s.off = true then ([0, 0, 0, 0, 0], 5) else if 578 ≤ s.ls.length then rdT (s.ls.length * 64) (imgS s) else ([0, 0, 0, 0, 0], 100)
def rootA (s : DevS) : Nat × Int := if (rdA s).2 ≠ 0 then (0, (rdA s).2) else wordP 64 s
end Go.Vl

namespace Go.Vl
open Go Go.Proofs
theorem old_heap' {W w : World} {g : Gh} (h : sat g w (old W)) {k : Nat} (hk : k < W.heap.size) : w.heap[k]? = W.heap[k]? := by
  obtain ⟨x, rfl, hx⟩ := h.hp
  have := Array.getElem?_eq_getElem hk
  rw [this]; exact hx _ _ true (by simp [this])
theorem cell_old' {W : World} {b off : Nat} {v : Value} (h : W.cell? ⟨b, off, none⟩ = some v) : Cell (old W) b off v := fun g w hs => by
  have hb : b < W.heap.size := by
    rcases Nat.lt_or_ge b W.heap.size with h1 | h1
    · exact h1
    · exfalso
      have : W.heap[b]? = none := Array.getElem?_eq_none h1
      simp [World.cell?, this] at h
  have := old_heap' hs hb
  rw [← h]; simp only [World.cell?, this]
theorem rs_old {W : World} {a : Addr} {xs : List Value} (h : ∀ i v, xs[i]? = some v → W.cell? (a.add i) = some v) : Rs (old W) (some a) xs := by
  cases xs with
  | nil => exact rs_nil
  | cons x l =>
    obtain ⟨b, off, spot⟩ := a
    have h0 := h 0 x rfl
    have hspot : spot = none := by simpa [Addr.add] using World.cell?_spot h0
    subst hspot
    refine fun g w hs i v hv => ⟨b, off, rfl, ?_⟩
    have := h i v hv
    rw [WideShapes.add_plain] at this
    exact cell_old' this g w hs
/-- Whatever lies there as a value of type t, by the argument's own reading, r holds of. -/
def Rdb {α : Type} (P : Program) (W : World) (t : TypeId) (r : List Value → α → Prop) : Prop :=
  ∀ (H : Type) (enc : TypeId × Value → H) (spare : Nat → Bool) (held : Bool) (fuel : Nat) (cs : List Value) (d : DataW H) (pl : List MemPlace),
    DataW.trod enc P W 0 spare held fuel t cs = some (d, pl) → (∀ n ∈ d.weights P t, n ≤ reachBytes) → ∃ x, r cs x
theorem Rdb.mono {α β : Type} {P : Program} {W : World} {t : TypeId} {r : List Value → α → Prop} {q : List Value → β → Prop} (h : Rdb P W t r) (k : ∀ cs x, r cs x → ∃ y, q cs y) : Rdb P W t q :=
  fun H enc sp hd fu cs d pl h1 h2 => by obtain ⟨x, hx⟩ := h H enc sp hd fu cs d pl h1 h2; exact k cs x hx
def PInt (k : IntKind) (cs : List Value) (n : Int) : Prop := cs = [.int k n] ∧ (Lit.int k n).wf = true
def PBool (cs : List Value) (b : Bool) : Prop := cs = [.bool b]
/-- A slice: its elements' cells, and what each is. -/
def PSl {α : Type} (A : SP) (k b : Nat) (r : List Value → α → Prop) (cs : List Value) (xs : List α) : Prop :=
  ∃ (a : Option Addr) (cap : Nat) (Cs : List (List Value)), cs = [.slice a xs.length cap] ∧ xs.length ≤ cap ∧ xs.length * b ≤ reachBytes ∧ Cs.length = xs.length ∧ (∀ i (h : i < xs.length) (h' : i < Cs.length), Cs[i].length = k ∧ r Cs[i] xs[i]) ∧ Rs A a Cs.flatten
theorem flat_at {k : Nat} : ∀ {Cs : List (List Value)} (_ : ∀ c ∈ Cs, c.length = k) {i j : Nat} (_ : j < k) (hi : i < Cs.length), Cs.flatten[i * k + j]? = Cs[i][j]?
  | c :: Cs, h, 0, j, hj, _ => by
    rw [Nat.zero_mul, Nat.zero_add, List.flatten_cons, List.getElem?_append_left (by rw [h c (by simp)]; exact hj)]; rfl
  | c :: Cs, h, i + 1, j, hj, hi => by
    have hc := h c (by simp)
    rw [List.flatten_cons, List.getElem?_append_right (by rw [hc, Nat.add_mul]; omega), hc, show (i + 1) * k + j - k = i * k + j by rw [Nat.add_mul]; omega]
    exact flat_at (fun x hx => h x (List.mem_cons_of_mem _ hx)) hj (by simpa using hi)
theorem flat_length {k : Nat} : ∀ {Cs : List (List Value)} (_ : ∀ c ∈ Cs, c.length = k), Cs.flatten.length = Cs.length * k
  | [], _ => by simp
  | c :: Cs, h => by
    rw [List.flatten_cons, List.length_append, h c (by simp), flat_length (fun x hx => h x (List.mem_cons_of_mem _ hx)), List.length_cons, Nat.add_mul]; omega
theorem flat1 {α : Type} {r : List Value → α → Prop} {f : α → Value} : ∀ {Cs : List (List Value)} {xs : List α} (_ : Cs.length = xs.length) (_ : ∀ i (h : i < xs.length) (h' : i < Cs.length), Cs[i] = [f xs[i]]), Cs.flatten = xs.map f
  | [], [], _, _ => rfl
  | c :: Cs, x :: xs, hl, h => by
    have h0 := h 0 (by simp) (by simp)
    simp only [List.getElem_cons_zero] at h0
    rw [List.flatten_cons, h0, flat1 (r := r) (f := f) (Cs := Cs) (xs := xs) (by simpa using hl) (fun i hi hi' => h (i + 1) (by simpa using hi) (by simpa using hi'))]; rfl
/-- Bytes. -/
def PBys (A : SP) (cs : List Value) (xs : List Nat) : Prop := ∃ a cap, cs = [.slice a xs.length cap] ∧ xs.length ≤ cap ∧ xs.length ≤ 140737488351232 ∧ Rs A a (bys xs) ∧ ∀ x ∈ xs, x < 256
def PInts (A : SP) (cs : List Value) (xs : List Int) : Prop := ∃ a cap, cs = [.slice a xs.length cap] ∧ xs.length ≤ cap ∧ xs.length ≤ 17592186043904 ∧ Rs A a (ints xs) ∧ ∀ x ∈ xs, -9223372036854775808 ≤ x ∧ x ≤ 9223372036854775807
theorem i64_wf {x : Int} (h : (Lit.int .i64 x).wf = true) : -9223372036854775808 ≤ x ∧ x ≤ 9223372036854775807 := Go.bounds_i64 h
end Go.Vl

namespace Go.Vl
open Go Go.Proofs
abbrev ub {H : Type} (d : DataW H) : Nat := Go.Proofs.YtndfopmdkcnkgaaGreat.Rows.uptoBulk d
abbrev ubs {H : Type} (l : List (DataW H)) : Nat := Go.Proofs.YtndfopmdkcnkgaaGreat.Rows.uptoBulkAll l
theorem ub_one {H : Type} (d : DataW H) : 1 ≤ ub d := by
  unfold ub
  cases d with
  | lit l => cases l <;> simp [Go.Proofs.YtndfopmdkcnkgaaGreat.Rows.uptoBulk]
  | _ => simp [Go.Proofs.YtndfopmdkcnkgaaGreat.Rows.uptoBulk]
theorem ubs_nil {H : Type} : ubs ([] : List (DataW H)) = 0 := by simp [ubs, Go.Proofs.YtndfopmdkcnkgaaGreat.Rows.uptoBulkAll]
theorem ubs_cons {H : Type} (d : DataW H) (l : List (DataW H)) : ubs (d :: l) = ub d + ubs l := by simp [ubs, ub, Go.Proofs.YtndfopmdkcnkgaaGreat.Rows.uptoBulkAll]
theorem ub_slice {H : Type} (l s : List (DataW H)) : ub (.slice l s) = ubs l + ubs s + 1 := by simp [ubs, ub, Go.Proofs.YtndfopmdkcnkgaaGreat.Rows.uptoBulk]
theorem ub_agg {H : Type} (l : List (DataW H)) : ub (.agg l) = ubs l + 1 := by simp [ubs, ub, Go.Proofs.YtndfopmdkcnkgaaGreat.Rows.uptoBulk]
theorem ub_bound {H : Type} {l : List (DataW H)} (h : Go.Proofs.YtndfopmdkcnkgaaGreat.Rows.uptoSmall H l = true) : ubs l ≤ 1048576 := by
  unfold Go.Proofs.YtndfopmdkcnkgaaGreat.Rows.uptoSmall at h; exact of_decide_eq_true h
/-- Whatever lies there as a value of type t, by the argument's own reading, r holds of, and of how much. -/
def Rdu {α : Type} (P : Program) (W : World) (t : TypeId) (r : List Value → α → Prop) (sz : α → Nat) : Prop :=
  ∀ (H : Type) (enc : TypeId × Value → H) (spare : Nat → Bool) (held : Bool) (fuel : Nat) (cs : List Value) (d : DataW H) (pl : List MemPlace),
    DataW.trod enc P W 0 spare held fuel t cs = some (d, pl) → ∃ x, r cs x ∧ sz x ≤ ub d
theorem Rdu.mono {α β : Type} {P : Program} {W : World} {t : TypeId} {r : List Value → α → Prop} {s : α → Nat} {q : List Value → β → Prop} {z : β → Nat} (h : Rdu P W t r s) (k : ∀ cs x, r cs x → ∃ y, q cs y ∧ z y ≤ s x) : Rdu P W t q z :=
  fun H enc sp hd fu cs d pl h1 => by
    obtain ⟨x, hx, hs⟩ := h H enc sp hd fu cs d pl h1
    obtain ⟨y, hy, hz⟩ := k cs x hx
    exact ⟨y, hy, by omega⟩
theorem rdu_int {P : Program} {W : World} {t : TypeId} {k : IntKind} (ht : P.underlying t = some (.int k)) : Rdu P W t (PInt k) (fun _ => 1) := fun H enc sp hd fu cs d pl h => by
  obtain ⟨n, e, _, hw⟩ := DataW.trod_int ht h
  exact ⟨n, ⟨e, hw⟩, ub_one d⟩
theorem rdu_bool {P : Program} {W : World} {t : TypeId} (ht : P.underlying t = some .bool) : Rdu P W t PBool (fun _ => 1) := fun H enc sp hd fu cs d pl h => by
  obtain ⟨b, e, _⟩ := DataW.trod_bool ht h
  exact ⟨b, e, ub_one d⟩
/-- A slice: its elements' cells, and what each is. -/
def PSu {α : Type} (A : SP) (k : Nat) (r : List Value → α → Prop) (cs : List Value) (xs : List α) : Prop :=
  ∃ (a : Option Addr) (cap : Nat) (Cs : List (List Value)), cs = [.slice a xs.length cap] ∧ xs.length ≤ cap ∧ Cs.length = xs.length ∧ (∀ i (h : i < xs.length) (h' : i < Cs.length), Cs[i].length = k ∧ r Cs[i] xs[i]) ∧ Rs A a Cs.flatten
def szL {α : Type} (sz : α → Nat) (xs : List α) : Nat := (xs.map sz).sum + 1
theorem sum_ubs {α H : Type} {sz : α → Nat} {f : Nat → α} {D : Nat → DataW H} : ∀ (n : Nat), (∀ i, i < n → sz (f i) ≤ ub (D i)) → (((List.range n).map f).map sz).sum ≤ ubs ((List.range n).map D)
  | 0, _ => by simp
  | n + 1, h => by
    have key : ∀ (l : List Nat), (∀ i ∈ l, sz (f i) ≤ ub (D i)) → ((l.map f).map sz).sum ≤ ubs (l.map D) := by
      intro l
      induction l with
      | nil => intro _; simp
      | cons x l ih =>
        intro h
        simp only [List.map_cons, List.sum_cons, ubs_cons]
        have := h x (by simp)
        have := ih fun i hi => h i (by simp [hi])
        omega
    exact key _ fun i hi => h i (by simpa using hi)
theorem rdu_slice {α : Type} {P : Program} {W : World} {t e : TypeId} {k : Nat} {r : List Value → α → Prop} {sz : α → Nat} (ht : P.underlying t = some (.slice e)) (hk : P.cellsOf e = k) (hk0 : 0 < k) (hr : Rdu P W e r sz) : Rdu P W t (PSu (old W) k r) (szL sz) := fun H enc sp hd fu cs d pl h => by
  rcases Deep.open_slice ht h with ⟨rfl, hx⟩ | ⟨a, len, cap, m, n, D, Pl, rfl, _, hl, _, hm, hx, hel⟩
  · exact ⟨[], ⟨none, 0, [], rfl, Nat.le_refl _, rfl, fun i h => by simp at h, rs_nil⟩, ub_one d⟩
  · have hlm : len ≤ m := by rw [hm]; split <;> omega
    simp only [Prod.mk.injEq] at hx
    obtain ⟨rfl, _⟩ := hx
    have hex : ∀ i, i < len → ∃ p : List Value × α, p.1.length = k ∧ r p.1 p.2 ∧ sz p.2 ≤ ub (D i) ∧ ∀ j v, p.1[j]? = some v → W.cell? (a.add (i * k + j)) = some v := fun i hi => by
      obtain ⟨cs', h1, h2⟩ := hel i oqz
      rw [hk] at h1
      obtain ⟨_, hlen, h3⟩ := World.cells?_some h1
      obtain ⟨x, hx, hs⟩ := hr H enc sp hd n cs' (D i) (Pl i) h2
      refine ⟨(cs', x), hlen, hx, hs, fun j v hv => ?_⟩
      have hj : j < k := by have h9 : j < cs'.length := lt_at hv; omega
      have := h3 j hj
      rw [Deep.add_add] at this
      rw [this, hv]
    rw [ub_slice]
    rcases Nat.eq_zero_or_pos len with h0 | h0
    · subst h0
      exact ⟨[], ⟨some a, cap, [], rfl, Nat.zero_le _, rfl, fun i h => by simp at h, rs_nil⟩, by simp [szL]⟩
    · obtain ⟨p0, _⟩ := hex 0 h0
      haveI : Inhabited (List Value × α) := ⟨p0⟩
      obtain ⟨f, hf⟩ := Deep.choose_lt hex
      refine ⟨(List.range len).map fun i => (f i).2, ⟨some a, cap, (List.range len).map fun i => (f i).1, by simp, by simpa using hl, by simp, fun i h h' => ?_, rs_old fun i v hv => ?_⟩, ?_⟩
      · simp only [List.length_map, List.length_range] at h
        simp only [List.getElem_map, List.getElem_range]
        exact ⟨(hf i h).1, (hf i h).2.1⟩
      · have hCk : ∀ c ∈ (List.range len).map fun i => (f i).1, c.length = k := fun c hc => by
          obtain ⟨i, hi, rfl⟩ := List.mem_map.1 hc
          exact (hf i (List.mem_range.1 hi)).1
        have hi := lt_at hv
        rw [flat_length hCk, List.length_map, List.length_range] at hi
        have hq : i / k < len := Nat.div_lt_of_lt_mul (by rw [Nat.mul_comm]; exact hi)
        have hm2 : i % k < k := Nat.mod_lt _ hk0
        have e : i = i / k * k + i % k := (Nat.div_add_mod' i k).symm
        rw [e, flat_at hCk hm2 (by simpa using hq)] at hv
        simp only [List.getElem_map, List.getElem_range] at hv
        rw [e]
        exact (hf (i / k) hq).2.2.2 _ v hv
      · have := sum_ubs (sz := sz) (f := fun i => (f i).2) (D := D) len fun i hi => (hf i hi).2.2.1
        unfold szL; omega
/-- The fields of a struct, one by one. -/
theorem rdu_fields {P : Program} {W : World} {t : TypeId} {fs : Array Field} (ht : P.underlying t = some (.struct fs)) {H : Type} {enc : TypeId × Value → H} {sp : Nat → Bool} {hd : Bool} {fu : Nat} {cs : List Value} {d : DataW H} {pl : List MemPlace}
    (h : DataW.trod enc P W 0 sp hd fu t cs = some (d, pl)) : cs.length = P.cellsOf t ∧ ∃ Ds : List (DataW H), Ds.length = fs.size ∧ ubs Ds + 1 = ub d ∧
    ∀ (j : Nat) (f : Field), fs[j]? = some f → ∀ {α : Type} {r : List Value → α → Prop} {sz : α → Nat}, Rdu P W f.type r sz → ∃ x D, Ds[j]? = some D ∧ r ((cs.drop f.offset).take (P.cellsOf f.type)) x ∧ sz x ≤ ub D := by
  obtain ⟨xs, n, _, hx, hl, hlen, hf⟩ := DataW.trod_struct ht h
  simp only [Prod.mk.injEq] at hx
  obtain ⟨rfl, _⟩ := hx
  refine ⟨hl, xs.map (·.1), by simpa using hlen, (ub_agg _).symm, fun j f hj α r sz hr => ?_⟩
  have hj' : j < xs.length := by
    have h1 : j < fs.size := (Array.getElem?_eq_some_iff.1 hj).1
    have h2 : xs.length = fs.size := by simpa using hlen
    omega
  have := hf j f hj
  rw [List.getElem?_eq_getElem hj'] at this
  obtain ⟨x, h1, h2⟩ := hr H enc sp hd n _ xs[j].1 xs[j].2 this
  exact ⟨x, xs[j].1, by simp [hj'], h1, h2⟩
/-- Bytes. -/
def PByU (A : SP) (cs : List Value) (xs : List Nat) : Prop := ∃ a cap, cs = [.slice a xs.length cap] ∧ xs.length ≤ cap ∧ Rs A a (bys xs) ∧ ∀ x ∈ xs, x < 256
def PInU (A : SP) (cs : List Value) (xs : List Int) : Prop := ∃ a cap, cs = [.slice a xs.length cap] ∧ xs.length ≤ cap ∧ Rs A a (ints xs) ∧ ∀ x ∈ xs, -9223372036854775808 ≤ x ∧ x ≤ 9223372036854775807
theorem sum_ones {α : Type} (xs : List α) : (xs.map fun _ => 1).sum = xs.length := by
  induction xs with
  | nil => rfl
  | cons x xs ih => simp only [List.map_cons, List.sum_cons, ih, List.length_cons]; omega
theorem rdu_bys {P : Program} {W : World} {t e : TypeId} (ht : P.underlying t = some (.slice e)) (he : P.underlying e = some (.int .u8)) (hk : P.cellsOf e = 1) : Rdu P W t (PByU (old W)) (fun xs => xs.length + 1) :=
  (rdu_slice ht hk (by decide) (rdu_int he)).mono fun cs zs ⟨a, cap, Cs, e1, hc, hl, hx, hr⟩ => by
    have hz : ∀ z ∈ zs, 0 ≤ z ∧ z ≤ 255 := fun z hz => by
      obtain ⟨i, hi, rfl⟩ := List.mem_iff_getElem.1 hz
      exact Go.bounds_u8 (hx i hi oqz).2.2
    have e2 : Cs.flatten = bys (zs.map Int.toNat) := by
      rw [flat1 (r := PInt .u8) (f := fun z : Int => .int .u8 z) hl (fun i h h' => (hx i h h').2.1), bys, List.map_map]
      refine List.map_congr_left fun z hzm => ?_
      have := hz z hzm
      simp only [Function.comp, b8]; congr 1; omega
    refine ⟨zs.map Int.toNat, ⟨a, cap, by simpa using e1, by simpa using hc, by rw [← e2]; exact hr, fun x hx => ?_⟩, by simp only [List.length_map, szL, sum_ones]; omega⟩
    obtain ⟨z, hzm, rfl⟩ := List.mem_map.1 hx
    have := hz z hzm; omega
theorem rdu_ints {P : Program} {W : World} {t e : TypeId} (ht : P.underlying t = some (.slice e)) (he : P.underlying e = some (.int .i64)) (hk : P.cellsOf e = 1) : Rdu P W t (PInU (old W)) (fun xs => xs.length + 1) :=
  (rdu_slice ht hk (by decide) (rdu_int he)).mono fun cs zs ⟨a, cap, Cs, e1, hc, hl, hx, hr⟩ => by
    refine ⟨zs, ⟨a, cap, e1, hc, ?_, fun z hz => ?_⟩, by simp only [szL, sum_ones]; omega⟩
    · rw [show ints zs = Cs.flatten from (flat1 (r := PInt .i64) (f := fun z : Int => .int .i64 z) hl (fun i h h' => (hx i h h').2.1)).symm]; exact hr
    · obtain ⟨i, hi, rfl⟩ := List.mem_iff_getElem.1 hz
      exact i64_wf (hx i hi oqz).2.2
end Go.Vl

namespace Go.Vl
open Go Go.Proofs
/-- An operation's cells. -/
structure Op9 where
  k : Int
  q : Int
  n : Int
  a : Option Addr
  c : Nat
  b : List Nat
  v : Nat
  ka : Option Addr
  kc : Nat
  kp : List Int
def Op9.cells (t : Op9) : List Value := [.int .i64 t.k, .int .i64 t.q, .int .i64 t.n, .slice t.a t.b.length t.c, .int .u64 (t.v : Nat), .slice t.ka t.kp.length t.kc]
structure Op9W (A : SP) (t : Op9) : Prop where
  cap : t.b.length ≤ t.c
  rs : Rs A t.a (bys t.b)
  byt : ∀ x ∈ t.b, x < 256
  v : t.v < 18446744073709551616
  kcap : t.kp.length ≤ t.kc
  krs : Rs A t.ka (ints t.kp)
  kb : ∀ x ∈ t.kp, -9223372036854775808 ≤ x ∧ x ≤ 9223372036854775807
  q : -9223372036854775808 ≤ t.q ∧ t.q ≤ 9223372036854775807
  n : -9223372036854775808 ≤ t.n ∧ t.n ≤ 9223372036854775807
def Op9.sz (t : Op9) : Nat := t.b.length + t.kp.length + 1
def ocs (l : List Op9) : List Value := l.flatMap Op9.cells
def POps (A : SP) (cs : List Value) (ops : List Op9) : Prop := ∃ a cap, cs = [.slice a ops.length cap] ∧ ops.length ≤ cap ∧ Rs A a (ocs ops) ∧ ∀ t ∈ ops, Op9W A t
/-! ### An operation on the device alone -/
def rawS (t : Op9) (s : DevS) : DevS := if t.k = 7 then (sto ((wi t.q 256 : Nat) : Int) (t.b.take (256 - wi t.q 256)) s).2 else if t.k = 8 then (fl1 ((wi t.q 256 : Nat) : Int) s).2 else if t.k = 9 then (fe s).2 else s
theorem room_le {a b : Nat} {s : DevS} (h : Room a s) (hab : b ≤ a) : Room b s := fun l hl => Nat.le_trans (Nat.add_le_add_left hab _) (h l hl)
def rawL (l : List Op9) (s : DevS) : DevS := l.foldl (fun s t => rawS t s) s
/-- The same, but what would be stored into the range is passed over. -/
def rawB (at_ m : Nat) (t : Op9) (s : DevS) : DevS := if t.k = 7 ∧ wi t.q 256 < at_ + m ∧ at_ < wi t.q 256 + t.b.length then s else rawS t s
def rawLB (at_ m : Nat) (l : List Op9) (s : DevS) : DevS := l.foldl (fun s t => rawB at_ m t s) s
end Go.Vl

namespace Go.Vl
open Go Go.Proofs
theorem done_room {r : Nat} {s : DevS} (hw : WfD s) (h : Room r s) : Room r (doneS s) := by
  rcases done_loss (X := fun _ _ => True) hw (fun _ _ _ _ _ => trivial) with ⟨_, h2, _⟩ | ⟨_, h1, h2, h3, _, h5⟩
  · unfold Room; rw [h2]; exact h
  · intro l hl
    have hp := hw.pos
    have h0 := h _ (List.getElem_mem hp)
    have h4 := List.length_pos_iff.2 (hw.line _ (List.getElem_mem hp)).ne
    have := h3 l hl
    omega
theorem storeF_room : ∀ (m : Nat) {p r : Nat} {b : List Nat} {s : DevS}, b.length = m → WfD s → (∀ x ∈ b, x < 256) → Room (r + m) s → Room r (storeF b.length p b s).2 ∧ WfD (storeF b.length p b s).2 := by
  intro m
  induction m using Nat.strongRecOn with
  | _ m ih =>
    intro p r b s hm hw hb hroom
    by_cases h0 : b = []
    · subst h0
      rw [storeF_nil]
      exact ⟨room_le hroom oqz, hw⟩
    · have hpos : 0 < b.length := List.length_pos_iff.2 h0
      have hr1 : Room 1 s := room_le hroom oqz
      have hwL := layS_wf (at_ := p - p % 8) hw hr1 (stW_nm (p := p) (s := s) hb)
      have hroom2 : Room (r + (m - min m (8 - p % 8))) (layS (p - p % 8) (nm (stW p b s)) s) := fun l hl => by
        have := onLine_room (r := r + m - 1) (f := layL ((p - p % 8) % 64 / 8) (nm (stW p b s))) (i := (p - p % 8) / 64) (fun l hl => by have := hroom l hl; omega) (fun l => by simp [layL]) l hl
        omega
      have hk : (b.drop (8 - p % 8)).length = m - min m (8 - p % 8) := by rw [List.length_drop]; omega
      rw [storeF_step h0]
      split
      · exact ⟨room_le (done_room hwL hroom2) oqz, doneS_wf hwL⟩
      · exact ih (m - min m (8 - p % 8)) oqz hk (doneS_wf hwL) (fun x hx => hb x (List.mem_of_mem_drop hx)) (done_room hwL hroom2)
theorem fence_wf {s : DevS} (hw : WfD s) : WfD (fenceS s) := ⟨by simp [fenceS]; exact hw.pos, by simp [fenceS]; exact hw.top, fun l hl => by
  simp only [fenceS, List.mem_map] at hl
  obtain ⟨l0, h0, rfl⟩ := hl
  exact fenceL_wf (hw.line l0 h0), hw.arms, hw.after, hw.keeps⟩
theorem flF_room {r : Nat} : ∀ (k q : Nat) (s : DevS), WfD s → Room r s → Room r (flF k q s).2 ∧ WfD (flF k q s).2
  | 0, q, s, hw, h => by
    rw [flF_zero]
    unfold fe
    split
    · exact ⟨h, hw⟩
    · refine ⟨done_room (fence_wf hw) fun l hl => ?_, doneS_wf (fence_wf hw)⟩
      simp only [fenceS, List.mem_map] at hl
      obtain ⟨l0, h0, rfl⟩ := hl
      have h3 : (fenceL l0).st.length ≤ l0.st.length := by unfold fenceL; split <;> simp
      have := h l0 h0
      omega
  | k + 1, q, s, hw, h => by
    have hk : Room r (fl1 ((q * 64 : Nat) : Int) s).2 ∧ WfD (fl1 ((q * 64 : Nat) : Int) s).2 := by
      unfold fl1
      split
      · exact ⟨h, hw⟩
      · refine ⟨done_room (flushS_wf hw) fun l hl => ?_, doneS_wf (flushS_wf hw)⟩
        unfold flushS onLine at hl
        split at hl
        · rcases List.mem_or_eq_of_mem_set hl with h1 | h1
          · exact h l h1
          · rw [h1]
            rename_i l0 e
            exact h l0 (List.mem_of_getElem? e)
        · exact h l hl
    show Room r (if _ then _ else _ : Int × DevS).2 ∧ WfD (if _ then _ else _ : Int × DevS).2
    split
    · exact hk
    · exact flF_room k (q + 1) _ hk.2 hk.1
/-- Steps, one behind the other. -/
def fmtF : List (Nat × List Nat) → DevS → Int × DevS
  | [], s => (0, s)
  | t :: l, s => if (bytesP (t.1 : Int) t.2 s).1 ≠ 0 then bytesP (t.1 : Int) t.2 s else fmtF l (bytesP (t.1 : Int) t.2 s).2
def fst4 (n : Nat) : List (Nat × List Nat) := [(0, (List.replicate 64 0)), (64, (List.replicate 64 0)), (128, (List.replicate 64 0)), (0, sbB [n, 128, 32768, 32896, (n - 32896) / 256, 0])]
def stC (l : List (Nat × List Nat)) : List Value := l.flatMap fun t => .int .i64 (t.1 : Int) :: bys t.2
/-- What Format answers, and the device behind it. -/
def fmA (n : Nat) (s : DevS) : List Int × Int := if (fmtF (fst4 n) s).1 ≠ 0 then ([0, 0, 0, 0, 0], (fmtF (fst4 n) s).1) else ([(n : Int), ((128 : Nat) : Int), ((32768 : Nat) : Int), ((32896 : Nat) : Int), (((n - 32896) / 256 : Nat) : Int)], 0)
end Go.Vl

namespace Go.Vl
open Go Go.Proofs
def zz : List Nat := List.replicate 64 0
def LostI (n : Nat) (xs I : List Nat) : Prop := I.length = n ∧ I.drop 192 = xs.drop 192 ∧ (I.take 192 = xs.take 192 ∨ I.take 64 ≠ sbB [n, 128, 32768, 32896, (n - 32896) / 256, 0] ∨ (I.drop 64).take 128 = List.replicate 128 0)
def DoneI (n : Nat) (xs I : List Nat) : Prop := I.length = n ∧ I.drop 192 = xs.drop 192 ∧ I.take 64 = sbB [n, 128, 32768, 32896, (n - 32896) / 256, 0] ∧ (I.drop 64).take 128 = List.replicate 128 0
end Go.Vl

namespace Go.Vl
open Go Go.Proofs
def PSteps (A : SP) (cs : List Value) (ss : List StepC) : Prop := ∃ a cap, cs = [.slice a ss.length cap] ∧ ss.length ≤ cap ∧ ss.length ≤ 1353245080300 ∧ Rs A a (scs ss) ∧ ∀ t ∈ ss, t.v < 18446744073709551616
end Go.Vl

namespace Go.Vl
open Go Go.Proofs
structure ImC where
  sz : Int
  fl : Int
  ha : Option Addr
  hcp : Nat
  hd : List Nat
  rt : Bool
  tn : Int
def ImC.cells (t : ImC) : List Value := [.int .i64 t.sz, .int .u8 t.fl, .slice t.ha t.hd.length t.hcp, .bool t.rt, .int .i64 t.tn]
def PImg (A : SP) (cs : List Value) (t : ImC) : Prop := cs = t.cells ∧ Rs A t.ha (bys t.hd) ∧ (∀ x ∈ t.hd, x < 256) ∧ t.hd.length ≤ t.hcp ∧ t.hd.length ≤ 140737488351232 ∧ (0 ≤ t.fl ∧ t.fl < 256) ∧ (-9223372036854775808 ≤ t.tn ∧ t.tn ≤ 9223372036854775807) ∧ (-9223372036854775808 ≤ t.sz ∧ t.sz ≤ 9223372036854775807)
end Go.Vl

namespace Go.Vl
open Go Go.Proofs
/-- Rows that are read. -/
structure RwF (A : SP) (a : Option Addr) (vs : List Value) (ls : List (List Nat)) : Prop where
  len : vs.length = ls.length
  rd : Rs A a vs
  row : ∀ i (h : i < ls.length), ∃ b c, vs[i]? = some (.slice b ls[i].length c) ∧ Rs A b (bys ls[i])
theorem RwF.left {A X : SP} {a : Option Addr} {vs : List Value} {ls : List (List Nat)} (h : RwF A a vs ls) : RwF (A * X) a vs ls := ⟨h.len, h.rd.left, fun i hi => let ⟨b, c, e, hr⟩ := h.row i hi; ⟨b, c, e, hr.left⟩⟩
end Go.Vl

namespace Go.Vl
open Go Go.Proofs
/-- What Format answers of any device, and the device behind it. -/
def fmX (s : DevS) : (List Int × Int) × DevS := if 578 ≤ s.ls.length then (((fmA (s.ls.length * 64) s).1, (fmtF (fst4 (s.ls.length * 64)) s).1), (fmtF (fst4 (s.ls.length * 64)) s).2) else (([0, 0, 0, 0, 0], 80), s)
end Go.Vl

namespace Go.Vl
open Go Go.Proofs
theorem room_goesK {r : Nat} {keep : List Int} {s : DevS} (hw : WfD s) (h : Room r s) : Room r (goesS keep s) := fun l hl => by
  have h0 := h _ (List.getElem_mem hw.pos)
  have h1 := List.length_pos_iff.2 (hw.line _ (List.getElem_mem hw.pos)).ne
  simp only [goesS, goPart] at hl
  obtain ⟨j, hj, rfl⟩ := List.mem_iff_getElem.1 hl
  simp only [List.getElem_mapIdx]
  simp only [List.length_mapIdx] at hj
  rw [if_pos hj]; simp [goL]; omega
theorem st8_room {r v : Nat} {p e : Int} {s s2 : DevS} (h : st8 p v s = (e, s2)) (hw : WfD s) (hv : v < 18446744073709551616) (hr : Room (r + 1) s) : Room r s2 := by
  have h0 : Room r s := room_le hr oqz
  unfold st8 at h
  split at h
  · rw [← (Prod.mk.inj h).2]; exact h0
  · split at h
    · rw [← (Prod.mk.inj h).2]; exact h0
    · rw [← (Prod.mk.inj h).2]
      exact done_room (layS_wf hw (room_le hr oqz) hv) (onLine_room hr fun l => by simp [layL])
theorem sto_room {r : Nat} {p e : Int} {b : List Nat} {s s2 : DevS} (h : sto p b s = (e, s2)) (hw : WfD s) (hb : ∀ x ∈ b, x < 256) (hr : Room (r + b.length) s) : Room r s2 := by
  have h0 : Room r s := room_le hr oqz
  have h2 : (sto p b s).2 = s2 := by rw [h]
  rw [← h2]
  unfold sto
  split
  · exact h0
  · exact (storeF_room b.length rfl hw hb hr).1
theorem flushS_room {r p : Nat} {s : DevS} (h : Room r s) : Room r (flushS p s) := fun l hl => by
  unfold flushS onLine at hl
  split at hl
  · rcases List.mem_or_eq_of_mem_set hl with h1 | h1
    · exact h l h1
    · rw [h1]
      rename_i l0 e
      exact h l0 (List.mem_of_getElem? e)
  · exact h l hl
theorem fl1_room {r : Nat} {p e : Int} {s s2 : DevS} (h : fl1 p s = (e, s2)) (hw : WfD s) (hr : Room r s) : Room r s2 := by
  unfold fl1 at h
  split at h
  · rw [← (Prod.mk.inj h).2]; exact hr
  · rw [← (Prod.mk.inj h).2]; exact done_room (flushS_wf hw) (flushS_room hr)
theorem fe_room {r : Nat} {e : Int} {s s2 : DevS} (h : fe s = (e, s2)) (hw : WfD s) (hr : Room r s) : Room r s2 := by
  unfold fe at h
  split at h
  · rw [← (Prod.mk.inj h).2]; exact hr
  · rw [← (Prod.mk.inj h).2]
    refine done_room (fence_wf hw) fun l hl => ?_
    simp only [fenceS, List.mem_map] at hl
    obtain ⟨l0, h0, rfl⟩ := hl
    have h3 : (fenceL l0).st.length ≤ l0.st.length := by unfold fenceL; split <;> simp
    have := hr l0 h0
    omega
theorem armS_room {r : Nat} {e : Int} {ars : List (Int × List Int)} {s s2 : DevS} (h : armS ars s = (e, s2)) (hr : Room r s) : Room r s2 := by
  unfold armS at h
  split at h
  · rw [← (Prod.mk.inj h).2]; exact hr
  · split at h
    · rw [← (Prod.mk.inj h).2]; exact hr
    · split at h
      · rw [← (Prod.mk.inj h).2]; exact hr
      · rw [← (Prod.mk.inj h).2]; exact hr
theorem crS_room {r : Nat} {e : Int} {kp : List Int} {s s2 : DevS} (h : crS kp s = (e, s2)) (hw : WfD s) (hr : Room r s) : Room r s2 := by
  unfold crS at h
  split at h
  · rw [← (Prod.mk.inj h).2]; exact hr
  · split at h
    · rw [← (Prod.mk.inj h).2]; exact hr
    · rw [← (Prod.mk.inj h).2]; exact room_goesK hw hr
/-- The contents of a line, by any number. -/
def ctI (p : Int) (s : DevS) : List (List Nat) := if p < 0 then [] else ctS p.toNat s
/-- What Load tells. -/
def ldB (p m : Int) (s : DevS) : List Nat := if rdy s.ls.length s.off p m = 0 then ((imgS s).drop p.toNat).take m.toNat else []
end Go.Vl

namespace Go.Vl
open Go Go.Proofs
theorem Op9W.left {A X : SP} {t : Op9} (h : Op9W A t) : Op9W (A * X) t := ⟨h.cap, h.rs.left, h.byt, h.v, h.kcap, h.krs.left, h.kb, h.q, h.n⟩
/-- What PersistLasts is handed. -/
structure RgC where
  ba : Option Addr
  bc : Nat
  bef : List Op9
  q : Int
  a : Option Addr
  c : Nat
  b : List Nat
  ha : Option Addr
  hc : Nat
  beh : List Op9
  ka : Option Addr
  kc : Nat
  kp : List Int
def RgC.cells (t : RgC) : List Value := [.slice t.ba t.bef.length t.bc, .int .i64 t.q, .slice t.a t.b.length t.c, .slice t.ha t.beh.length t.hc, .slice t.ka t.kp.length t.kc]
structure RgW (A : SP) (t : RgC) : Prop where
  hrb : Rs A t.ba (ocs t.bef)
  hwb : ∀ x ∈ t.bef, Op9W A x
  hrh : Rs A t.ha (ocs t.beh)
  hwh : ∀ x ∈ t.beh, Op9W A x
  hr : Rs A t.a (bys t.b)
  hb : ∀ x ∈ t.b, x < 256
  hcap : t.b.length ≤ t.c
  hrk : Rs A t.ka (ints t.kp)
end Go.Vl

namespace Go.Vl
open Go Go.Proofs
def xm (i : Nat) : Int := IntKind.u8.wrap (IntKind.i64.wrap ((BitVec.ofInt IntKind.i64.bits 165 ^^^ BitVec.ofInt IntKind.i64.bits (i : Int)).toNat))
/-- The marks behind a list of bytes. -/
def xmN (i : Nat) : Nat := (xm i).toNat
def spm (n : Nat) : List Nat := (List.range 80).map fun j => xmN (n + j)
def spi (n : Nat) : List Int := (List.range 9).map fun j => (7700 + ((n + j : Nat) : Int))
end Go.Vl

namespace Go.Vl
open Go Go.Proofs
theorem rangeP_room {r : Nat} {p m e : Int} {s s2 : DevS} (h : rangeP p m s = (e, s2)) (hw : WfD s) (hr : Room r s) : Room r s2 := by
  have h2 : (rangeP p m s).2 = s2 := by rw [h]
  rw [← h2]
  unfold rangeP
  split
  · exact hr
  · split
    · exact hr
    · split
      · exact hr
      · exact (flF_room _ _ _ hw hr).1
theorem st8_wf {v : Nat} {p e : Int} {s s2 : DevS} (h : st8 p v s = (e, s2)) (hw : WfD s) (hv : v < 18446744073709551616) (hr : Room 1 s) : WfD s2 := by
  unfold st8 at h
  split at h
  · rw [← (Prod.mk.inj h).2]; exact hw
  · split at h
    · rw [← (Prod.mk.inj h).2]; exact hw
    · rw [← (Prod.mk.inj h).2]; exact doneS_wf (layS_wf hw hr hv)
/-- How wide. -/
def wd (n : Int) : Nat := 2 ^ wi n 4
end Go.Vl

namespace Go.Vl
open Go Go.Proofs
theorem done_on {s : DevS} (h : doneE s = 0) : (doneS s).off = s.off := by
  unfold doneE at h
  unfold doneS
  cases e : s.arms with
  | nil => rfl
  | cons a ar =>
    rw [e] at h
    simp only at h ⊢
    split
    · rfl
    · rename_i c; rw [if_neg c] at h; exact absurd h (by decide)
theorem storeF_on : ∀ (m : Nat) {p : Nat} {b : List Nat} {s s2 : DevS}, b.length = m → storeF b.length p b s = (0, s2) → s2.off = s.off := by
  intro m
  induction m using Nat.strongRecOn with
  | _ m ih =>
    intro p b s s2 hm h
    by_cases h0 : b = []
    · subst h0; rw [storeF_nil] at h; simp only [Prod.mk.injEq, true_and] at h; rw [h]
    · have hpos : 0 < b.length := List.length_pos_iff.2 h0
      rw [storeF_step h0] at h
      by_cases hd : doneE (layS (p - p % 8) (nm (stW p b s)) s) = 0
      · rw [if_neg (by rw [hd]; decide)] at h
        have := ih (b.drop (8 - p % 8)).length (by rw [List.length_drop]; omega) rfl h
        rw [this, done_on hd, layS_off]
      · rw [if_pos hd] at h
        simp only [Prod.mk.injEq] at h
        exact absurd h.1 hd
theorem sto_on {p : Int} {b : List Nat} {s s2 : DevS} (h : sto p b s = (0, s2)) : s2.off = s.off := by
  unfold sto at h
  split at h
  · rename_i hr; simp only [Prod.mk.injEq] at h; exact absurd h.1 hr
  · exact storeF_on _ rfl h
def needN (l : List (Int × Int)) : Nat := (l.map fun x => 24 + up8 x.2.toNat).sum
theorem needN_cons (x : Int × Int) (l : List (Int × Int)) : needN (x :: l) = 24 + up8 x.2.toNat + needN l := by unfold needN; rw [List.map_cons, List.sum_cons]
theorem needF_ok : ∀ {l : List (Int × Int)} {s e r : Int}, (∀ x ∈ l, 1 ≤ x.2) → needF (lensX l) s = (r, e) → e = 0 → r = s + (needN l : Nat)
  | [], s, e, r, _, h, _ => by
    simp only [lensX, List.map_nil, needF, Prod.mk.injEq] at h
    rw [← h.1]; show s = s + ((0 : Nat) : Int); omega
  | x :: l, s, e, r, hx, h, he => by
    have h1 := hx x (by simp)
    obtain ⟨n, hn⟩ := Int.eq_ofNat_of_zero_le (show 0 ≤ x.2 by omega)
    have hc : lensX (x :: l) = (n : Int) :: lensX l := by unfold lensX; rw [List.map_cons, hn]
    rw [hc, needF_cons oqz] at h
    split at h
    · simp only [Prod.mk.injEq] at h; omega
    · rename_i hno
      have h2 := needF_ok (fun x hx' => hx x (List.mem_cons_of_mem _ hx')) h he
      rw [h2, needN_cons, hn, Int.toNat_natCast]
      have : (rndS n).1 = ((up8 n : Nat) : Int) := by unfold rndS at hno ⊢; split at hno <;> rename_i hh; exact absurd (.inl (by decide)) hno; rw [if_neg hh]
      omega
attribute [local irreducible] crk crL crc Sl pt ro Dev imgS recS
theorem Open_ok {A R : SP} {C : SP → SP} {d : Nat} {s : DevS} (hc : Ct A (Dev d s) R C := by repeat (first | with_reducible exact ct_here | apply ct_left)) {p q : Int} (hp : -9223372036854775808 ≤ p ∧ p ≤ 9223372036854775807 := by omega) (hq : -9223372036854775808 ≤ q ∧ q ≤ 9223372036854775807 := by omega) (hok : (64 ≤ p ∧ p % 64 = 0 ∧ 128 ≤ q ∧ q % 64 = 0 ∧ p ≤ (s.ls.length : Int) * 64 ∧ q ≤ (s.ls.length : Int) * 64 - p) := by omega) :
    Fn Tryz.prog 9 #[.pointer (some ⟨d, 0, none⟩), .int .i64 p, .int .i64 q] (A) (fun r B => ∃ b, r = .tuple #[.pointer (some ⟨b, 0, none⟩), .int .i64 0] ∧ B = A * pt b (cl [.pointer (some ⟨d, 0, none⟩), .int .i64 p, .int .i64 q] 94)) := by
  refine fn_enterW (args := [.pointer (some ⟨d, 0, none⟩), .int .i64 p, .int .i64 q]) Tryz.func9 rfl Tryz.ntmps9 (by simp) ?_; refine tc_have (fun _ _ h => ct_wf2 hc h) fun hw => ?_
  have htop := hw.top
  have hpos := hw.pos
  obtain ⟨rfl, hC⟩ := hc
  refine sr ?_; refine tla ?_; refine tla ?_; refine nq ?_; refine sr ?_; refine tlm ?_; refine tl_c rfl (o_call bd28 rfl (Size_c (s := s))) ?_; rintro _ _ ⟨rfl, rfl⟩; refine tla ?_; refine nq ?_; refine tc_seq ?_; refine tc_block ?_; refine sr ?_; refine tlm ?_; refine tv (o_eqi rfl rfl) ?_; refine tla ?_; refine nq ?_; refine tc_cond rfl (fun h => ?_) (fun h => ?_)
  · exfalso; first | omega | (simp at h; omega)
  · try simp only [lv1, lv2, lv3, lv4, lv5, lv6, Bool.not_true, Bool.not_false] at h
    refine tc_seq ?_; refine tc_cut (fun ρ BB => ∃ (bb : Bool), (bb = decide (¬ (64 ≤ p ∧ p % 64 = 0 ∧ 128 ≤ q ∧ q % 64 = 0 ∧ p ≤ (s.ls.length : Int) * 64 ∧ q ≤ (s.ls.length : Int) * 64 - p))) ∧ ρ 14 = .bool bb ∧ ρ 0 = .pointer (some ⟨d, 0, none⟩) ∧ ρ 1 = .int .i64 p ∧ ρ 2 = .int .i64 q ∧ BB = R * Dev d s) ?_ ?_
    · skip
      refine tc_reg ?_; refine tlm ?_; refine tv (o_lss rfl rfl) ?_; refine tlm ?_; refine tl_bool (d := 17) rfl (fun h => ?_) (fun h => ?_)
      · have g17 : (p < 64) := by first | exact of_decide_eq_true h | (have h2 := h; simp at h2; omega) | simpa using h
        refine tk ?_; refine tk ?_; refine tk ?_; refine tv (o_pick_t rfl (by conv => lhs; whnf)) ?_; refine tlm ?_; refine tk ?_; refine tk ?_; refine tv (o_pick_t rfl (by conv => lhs; whnf)) ?_; refine tlm ?_; refine tk ?_; refine tk ?_; refine tk ?_; refine tv (o_pick_t rfl (by conv => lhs; whnf)) ?_; refine tlm ?_; refine tk ?_; refine tk ?_; refine tk ?_; refine tv (o_pick_t rfl (by conv => lhs; whnf)) ?_; refine tlm ?_; refine tk ?_; refine tk ?_; refine tk ?_; refine tk ?_; refine tk ?_; refine tv (o_pick_t rfl (by conv => lhs; whnf)) ?_; refine tla ?_; refine tl_nil ?_; exact ⟨_, by first | exact (decide_eq_true oqz).symm | exact (decide_eq_false oqz).symm | (rw [decide_eq_decide]; omega), rfl, rfl, rfl, rfl, rfl⟩
      · have g17 : ¬ (p < 64) := by first | exact of_decide_eq_false h | (have h2 := h; simp at h2; omega) | simpa using h
        refine tlm ?_; refine tv (by first | exact o_remI rfl rfl oqz | exact o_rem rfl rfl oqz) ?_; refine tv (o_nei rfl rfl) ?_; refine tv (o_pick_f rfl (by conv => lhs; whnf)) ?_; refine tlm ?_; refine tl_bool (d := 22) rfl (fun h => ?_) (fun h => ?_)
        · have g22 : (p < 64 ∨ p % 64 ≠ 0) := by first | exact of_decide_eq_true h | (have h2 := h; simp at h2; omega) | simpa using h
          refine tk ?_; refine tk ?_; refine tv (o_pick_t rfl (by conv => lhs; whnf)) ?_; refine tlm ?_; refine tk ?_; refine tk ?_; refine tk ?_; refine tv (o_pick_t rfl (by conv => lhs; whnf)) ?_; refine tlm ?_; refine tk ?_; refine tk ?_; refine tk ?_; refine tv (o_pick_t rfl (by conv => lhs; whnf)) ?_; refine tlm ?_; refine tk ?_; refine tk ?_; refine tk ?_; refine tk ?_; refine tk ?_; refine tv (o_pick_t rfl (by conv => lhs; whnf)) ?_; refine tla ?_; refine tl_nil ?_; exact ⟨_, by first | exact (decide_eq_true oqz).symm | exact (decide_eq_false oqz).symm | (rw [decide_eq_decide]; omega), rfl, rfl, rfl, rfl, rfl⟩
        · have g22 : ¬ (p < 64 ∨ p % 64 ≠ 0) := by first | exact of_decide_eq_false h | (have h2 := h; simp at h2; omega) | simpa using h
          refine tlm ?_; refine tv (o_lss rfl rfl) ?_; refine tv (o_pick_f rfl (by conv => lhs; whnf)) ?_; refine tlm ?_; refine tl_bool (d := 26) rfl (fun h => ?_) (fun h => ?_)
          · have g26 : (p < 64 ∨ p % 64 ≠ 0 ∨ q < 128) := by first | exact of_decide_eq_true h | (have h2 := h; simp at h2; omega) | simpa using h
            refine tk ?_; refine tk ?_; refine tk ?_; refine tv (o_pick_t rfl (by conv => lhs; whnf)) ?_; refine tlm ?_; refine tk ?_; refine tk ?_; refine tk ?_; refine tv (o_pick_t rfl (by conv => lhs; whnf)) ?_; refine tlm ?_; refine tk ?_; refine tk ?_; refine tk ?_; refine tk ?_; refine tk ?_; refine tv (o_pick_t rfl (by conv => lhs; whnf)) ?_; refine tla ?_; refine tl_nil ?_; exact ⟨_, by first | exact (decide_eq_true oqz).symm | exact (decide_eq_false oqz).symm | (rw [decide_eq_decide]; omega), rfl, rfl, rfl, rfl, rfl⟩
          · have g26 : ¬ (p < 64 ∨ p % 64 ≠ 0 ∨ q < 128) := by first | exact of_decide_eq_false h | (have h2 := h; simp at h2; omega) | simpa using h
            refine tlm ?_; refine tv (by first | exact o_remI rfl rfl oqz | exact o_rem rfl rfl oqz) ?_; refine tv (o_nei rfl rfl) ?_; refine tv (o_pick_f rfl (by conv => lhs; whnf)) ?_; refine tlm ?_; refine tl_bool (d := 31) rfl (fun h => ?_) (fun h => ?_)
            · have g31 : (p < 64 ∨ p % 64 ≠ 0 ∨ q < 128 ∨ q % 64 ≠ 0) := by first | exact of_decide_eq_true h | (have h2 := h; simp at h2; omega) | simpa using h
              refine tk ?_; refine tk ?_; refine tk ?_; refine tv (o_pick_t rfl (by conv => lhs; whnf)) ?_; refine tlm ?_; refine tk ?_; refine tk ?_; refine tk ?_; refine tk ?_; refine tk ?_; refine tv (o_pick_t rfl (by conv => lhs; whnf)) ?_; refine tla ?_; refine tl_nil ?_; exact ⟨_, by first | exact (decide_eq_true oqz).symm | exact (decide_eq_false oqz).symm | (rw [decide_eq_decide]; omega), rfl, rfl, rfl, rfl, rfl⟩
            · have g31 : ¬ (p < 64 ∨ p % 64 ≠ 0 ∨ q < 128 ∨ q % 64 ≠ 0) := by first | exact of_decide_eq_false h | (have h2 := h; simp at h2; omega) | simpa using h
              refine tlm ?_; refine tlm ?_; refine tv (o_gtr rfl rfl) ?_; refine tv (o_pick_f rfl (by conv => lhs; whnf)) ?_; refine tlm ?_; refine tl_bool (d := 36) rfl (fun h => ?_) (fun h => ?_)
              · have g36 : (p < 64 ∨ p % 64 ≠ 0 ∨ q < 128 ∨ q % 64 ≠ 0 ∨ (s.ls.length : Int) * 64 < p) := by first | exact of_decide_eq_true h | (have h2 := h; simp at h2; omega) | simpa using h
                refine tk ?_; refine tk ?_; refine tk ?_; refine tk ?_; refine tk ?_; refine tv (o_pick_t rfl (by conv => lhs; whnf)) ?_; refine tla ?_; refine tl_nil ?_; exact ⟨_, by first | exact (decide_eq_true oqz).symm | exact (decide_eq_false oqz).symm | (rw [decide_eq_decide]; omega), rfl, rfl, rfl, rfl, rfl⟩
              · have g36 : ¬ (p < 64 ∨ p % 64 ≠ 0 ∨ q < 128 ∨ q % 64 ≠ 0 ∨ (s.ls.length : Int) * 64 < p) := by first | exact of_decide_eq_false h | (have h2 := h; simp at h2; omega) | simpa using h
                refine tlm ?_; refine tlm ?_; refine tlm ?_; refine tv (o_subI rfl rfl oqz) ?_; refine tv (o_gtr rfl rfl) ?_; refine tv (o_pick_f rfl (by conv => lhs; whnf)) ?_; refine tla ?_; refine tl_nil ?_; exact ⟨_, by first | exact (decide_eq_true oqz).symm | exact (decide_eq_false oqz).symm | (rw [decide_eq_decide]; omega), rfl, rfl, rfl, rfl, rfl⟩
    · intro ρ B hI
      obtain ⟨bb, hbb0, hE14, hE0, hE1, hE2, rfl⟩ := hI
      refine q_then_n ?_; refine tc_env (d := 14) hE14 ?_; refine tc_env (d := 0) hE0 ?_; refine tc_env (d := 1) hE1 ?_; refine tc_env (d := 2) hE2 ?_
      clear hE14 hE0 hE1 hE2
      refine tc_cond rfl (fun h => ?_) (fun h => ?_)
      · exfalso; rw [h] at hbb0; have := of_decide_eq_true hbb0.symm; omega
      · try simp only [lv1, lv2, lv3, lv4, lv5, lv6, Bool.not_true, Bool.not_false] at h
        refine tc_skip ?_; refine q_block_n (q_then_n ?_); refine sr ?_; refine tlm ?_; refine tlm ?_; refine tlm ?_; refine tv (o_bS (l := [_, _, _]) (pv_cons (by conv => lhs; whnf) (pv_cons (by conv => lhs; whnf) (pv_cons (by conv => lhs; whnf) pv_nil))) Tryz.underlying94 z94 (pl94 Tryz.underlying94) rfl) ?_; refine tl_x rfl (o_box rfl rfl) ?_; rintro _ _ ⟨b47, rfl, rfl⟩; refine tla ?_; refine tla ?_; refine nq ?_; refine tc_ret ?_; exact ⟨_, _, res2 rfl rfl rfl, fun _ _ h => h, b47, rfl, rfl⟩
theorem ready11_c {A R : SP} {C : SP → SP} {d : Nat} {s : DevS} (hc : Ct A (Dev d s) R C := by repeat (first | with_reducible exact ct_here | apply ct_left)) {bl at_ sz : Nat} (hl : Has R bl (cl (lcs11 d at_ sz) 94) := by (repeat (first | assumption | with_reducible exact has_here | with_reducible exact has_pt | apply has_left))) :
    Fn Tryz.prog 57 #[.pointer (some ⟨bl, 0, none⟩)] (A) (fun r B => r = .int .i64 (stE s) ∧ A = B) := by
  refine fn_enterW (args := [.pointer (some ⟨bl, 0, none⟩)]) Tryz.func57 rfl Tryz.ntmps57 (by simp) ?_
  obtain ⟨rfl, hC⟩ := hc
  refine sr ?_; refine tla ?_; refine nq ?_; refine tc_seq ?_; refine tc_block ?_; refine sr ?_; refine tlm ?_; refine tv (o_eqp Tryz.underlying37 rfl rfl) ?_; refine tlm ?_; refine tl_bool (d := 6) rfl (fun h => ?_) (fun h => ?_)
  · exfalso; simp at h
  · try simp only [lv1, lv2, lv3, lv4, lv5, lv6, Bool.not_true, Bool.not_false] at h
    refine tlm ?_; refine tv (o_nilCheck rfl) ?_; refine tv (o_fieldAddr (o := 0) Tryz.underlying94 rfl rfl sz28 rfl) ?_; refine tv (o_load p28 rfl haqz rfl) ?_; refine tv (o_eqp Tryz.underlying28 rfl rfl) ?_; refine tv (o_pick_f rfl (by conv => lhs; whnf)) ?_; refine tla ?_; refine nq ?_; refine tc_cond rfl (fun h => ?_) (fun h => ?_)
    · exfalso; simp at h
    · try simp only [lv1, lv2, lv3, lv4, lv5, lv6, Bool.not_true, Bool.not_false] at h
      refine sr ?_; refine tlm ?_; refine tv (o_nilCheck rfl) ?_; refine tv (o_fieldAddr (o := 0) Tryz.underlying94 rfl rfl sz28 rfl) ?_; refine tv (o_load p28 rfl haqz rfl) ?_; refine tl_c rfl (o_call bd13 rfl (Off_c (s := s))) ?_; rintro _ _ ⟨rfl, rfl⟩; refine tla ?_; refine nq ?_; refine tc_cond rfl (fun h => ?_) (fun h => ?_)
      · have ho : s.off = true := by first | exact h | simpa using h
        refine sr ?_; refine tla ?_; refine nq ?_; refine tc_ret ?_; refine q_block_r (q_then_r ?_); exact ⟨.int .i64 5, _, res1 rfl rfl, fun _ _ h => h, by unfold stE; rw [if_pos ho], rfl⟩
      · have ho : s.off = false := by first | exact h | simpa using h
        refine tc_skip ?_; refine q_block_n (q_then_n ?_); refine sr ?_; refine tla ?_; refine nq ?_; refine tc_ret ?_; exact ⟨.int .i64 0, _, res1 rfl rfl, fun _ _ h => h, by unfold stE; rw [if_neg (by rw [ho]; decide)], rfl⟩
theorem Clear_c {A R : SP} {C : SP → SP} {d : Nat} {s : DevS} (hc : Ct A (Dev d s) R C := by repeat (first | with_reducible exact ct_here | apply ct_left)) {bl at_ sz : Nat} (hl : Has R bl (cl (lcs11 d at_ sz) 94) := by (repeat (first | assumption | with_reducible exact has_here | with_reducible exact has_pt | apply has_left))) (hlw : LogW (s.ls.length * 64) at_ sz := by assumption) (hroom : Room 1 s := by assumption) :
    Fn Tryz.prog 32 #[.pointer (some ⟨bl, 0, none⟩)] (A) (fun r B => ∃ e s2, clearS at_ s = (e, s2) ∧ r = .int .i64 e ∧ B = C (Dev d s2)) := by
  refine fn_enterW (args := [.pointer (some ⟨bl, 0, none⟩)]) Tryz.func32 rfl Tryz.ntmps32 (by simp) ?_; refine tc_have (fun _ _ h => ct_wf2 hc h) fun hw => ?_
  have htop := hw.top
  have hpos := hw.pos
  obtain ⟨rfl, hC⟩ := hc
  have hAC : ∀ g w, sat g w (R * Dev d s) → sat g w (C (Dev d s)) := fun g w h => by rw [hC]; exact h
  have hlw9 := hlw
  obtain ⟨w1, w2, w3, w4, w5⟩ := hlw9
  refine sr ?_; refine tla ?_; refine nq ?_; refine tc_seq ?_; refine sr ?_; refine tlm ?_; refine tl_c rfl (o_call bd57 rfl (ready11_c (s := s) (hl := hl))) ?_; rintro _ _ ⟨rfl, rfl⟩; refine tla ?_; refine nq ?_; refine sr ?_; refine tlm ?_; refine tv (o_nei rfl rfl) ?_; refine nq ?_; refine tc_cond rfl (fun h => ?_) (fun h => ?_)
  · try simp only [lv1, lv2, lv3, lv4, lv5, lv6, Bool.not_true, Bool.not_false] at h
    refine sr ?_; refine tlm ?_; refine tla ?_; refine nq ?_; refine tc_ret ?_; refine q_then_r ?_
    have ho := stE_off h
    exact ⟨.int .i64 (stE s), C (Dev d s), res1 rfl rfl, hAC, stE s, s, by unfold clearS stE; rw [if_pos ho, if_pos ho], rfl, rfl⟩
  · have ho : s.off = false := stE_on (by simpa using h)
    refine tc_skip ?_; refine q_then_n ?_; refine tc_seq ?_; refine tc_regh (S := R) mo drqz ?_
    show TH _ _ _ _ _ 10 #[ff,ff,ff,ff,ff,ff,ff,ff,ff,ff] _ _
    refine th_take (i := 0) (listed' := #[tt,ff,ff,ff,ff,ff,ff,ff,ff,ff]) rfl kqz kqz kqz rfl rfl (o_move (by conv => lhs; whnf)) ?_; refine th_take (i := 1) (listed' := #[tt,tt,ff,ff,ff,ff,ff,ff,ff,ff]) rfl kqz kqz kqz rfl rfl (o_nilCheck rfl) ?_; refine th_take (i := 2) (listed' := #[tt,tt,tt,ff,ff,ff,ff,ff,ff,ff]) rfl kqz kqz kqz rfl rfl (o_fieldAddr (o := 0) Tryz.underlying94 rfl rfl sz28 rfl) ?_; refine th_take (i := 3) (listed' := #[tt,tt,tt,tt,ff,ff,ff,ff,ff,ff]) rfl kqz kqz kqz rfl rfl (o_load p28 rfl haqz rfl) ?_; refine th_take (i := 4) (listed' := #[tt,tt,tt,tt,tt,ff,ff,ff,ff,ff]) rfl kqz kqz kqz rfl rfl (o_move (by conv => lhs; whnf)) ?_; refine th_take (i := 5) (listed' := #[tt,tt,tt,tt,tt,tt,ff,ff,ff,ff]) rfl kqz kqz kqz rfl rfl (o_nilCheck rfl) ?_; refine th_take (i := 6) (listed' := #[tt,tt,tt,tt,tt,tt,tt,ff,ff,ff]) rfl kqz kqz kqz rfl rfl (o_fieldAddr (o := 1) Tryz.underlying94 rfl rfl sz3 rfl) ?_; refine th_take (i := 7) (listed' := #[tt,tt,tt,tt,tt,tt,tt,tt,ff,ff]) rfl kqz kqz kqz rfl rfl (o_load p3 rfl haqz rfl) ?_; refine th_one (i := 8) kqz ?_; refine oh_c (i := 8) (listed' := #[tt,tt,tt,tt,tt,tt,tt,tt,tt,ff]) rfl rfl rfl (o_call bd63 rfl (Publish_c (s := s) (p := (at_ : Nat)) (v := 0))) ?_
    rintro _ _ ⟨e17, s17, hs17, rfl, rfl⟩; refine ⟨by repeat (first | with_reducible exact dr_refl | apply dr_keep | apply dr_drop), ?_⟩; refine th_take (i := 9) (listed' := #[tt,tt,tt,tt,tt,tt,tt,tt,tt,tt]) rfl kqz kqz kqz rfl rfl (o_assign (by conv => lhs; whnf)) ?_; refine th_done kqz ?_; refine q_then_n ?_; refine tc_ret ?_; exact ⟨.int .i64 e17, C (Dev d s17), res1 rfl rfl, fun _ _ h => by rw [hC]; exact h, e17, s17, by unfold clearS; rw [if_neg (by rw [ho]; decide)]; exact hs17, rfl, rfl⟩
end Go.Vl

namespace Go.Vl
open Go Go.Proofs
theorem sq4z {p : Prop} (h : p := by repeat (first | with_reducible exact rs_sl | assumption | apply Rs.left)) : p := h
def xcl (l : List (Int × Int)) : List Value := l.flatMap xcs
theorem xcl_len (l : List (Int × Int)) : (xcl l).length = l.length * 2 := fm_length (f := xcs) fun _ _ => rfl
theorem xcl_at {l : List (Int × Int)} {j : Nat} (h : j < l.length) : ((xcl l).drop (j * 2)).take 2 = xcs l[j] := fm_at (f := xcs) (fun _ _ => rfl) h
theorem lensX_succ {l : List (Int × Int)} {i : Nat} (h : i < l.length) : lensX (l.take (i + 1)) = lensX (l.take i) ++ [l[i].2] := by
  rw [List.take_succ_eq_append_getElem h]; unfold lensX; rw [List.map_append]; rfl
theorem lensX_len (l : List (Int × Int)) : (lensX l).length = l.length := by unfold lensX; rw [List.length_map]
theorem may_nat {n at_ sz : Nat} {x : Int × Int} (h : mayX n at_ sz x = true) : ∃ p m : Nat, x = ((p : Int), (m : Int)) ∧ 64 ≤ p ∧ 1 ≤ m ∧ p + m ≤ n ∧ (p + m ≤ at_ ∨ at_ + sz ≤ p) := by
  have h1 := of_decide_eq_true h
  obtain ⟨p, hp⟩ := Int.eq_ofNat_of_zero_le (show 0 ≤ x.1 by omega)
  obtain ⟨m, hm⟩ := Int.eq_ofNat_of_zero_le (show 0 ≤ x.2 by omega)
  exact ⟨p, m, by cases x; simp only at hp hm; rw [hp, hm], by omega, by omega, by omega, by omega⟩
theorem word_in {p : Nat} {s : DevS} (ho : s.off = false) (hp : p % 8 = 0) (hi : p + 8 ≤ s.ls.length * 64) : wordP (p : Nat) s = (nm (((imgS s).drop p).take 8), 0) := by
  unfold wordP loadP
  rw [if_neg (by rw [ho]; decide), if_neg oqz, ho, if_neg (by rw [rdy_ok oqz oqz oqz]; decide), Int.toNat_natCast]
theorem nm8_lt {l : List Nat} (h : ∀ x ∈ l, x < 256) : nm (l.take 8) < 18446744073709551616 := by
  have h1 := nm_lt (l.take 8) fun x hx => h x (List.mem_of_mem_take hx)
  exact Nat.lt_of_lt_of_le h1 (by calc 256 ^ (l.take 8).length ≤ 256 ^ 8 := Nat.pow_le_pow_right (by decide) (List.length_take_le _ _)
    _ = 18446744073709551616 := by decide)
theorem putF_e {q p m : Nat} {l : List (Int × Int)} {s s2 : DevS} {e : Int} (h : sto (q : Nat) (recS p (((imgS s).drop p).take m)) s = (e, s2)) (he : e ≠ 0) : putF q (((p : Int), (m : Int)) :: l) s = (e, s2) := by
  show (if (sto (q : Nat) (recS p (((imgS s).drop p).take m)) s).1 ≠ 0 then sto (q : Nat) (recS p (((imgS s).drop p).take m)) s else _) = _
  rw [h, if_pos he]
theorem putF_o {q p m : Nat} {l : List (Int × Int)} {s s2 : DevS} (h : sto (q : Nat) (recS p (((imgS s).drop p).take m)) s = (0, s2)) : putF q (((p : Int), (m : Int)) :: l) s = putF (q + (24 + up8 m)) l s2 := by
  show (if (sto (q : Nat) (recS p (((imgS s).drop p).take m)) s).1 ≠ 0 then _ else putF (q + (24 + up8 m)) l (sto (q : Nat) (recS p (((imgS s).drop p).take m)) s).2) = _
  rw [h, if_neg (by simp)]
theorem needN_ge : ∀ (l : List (Int × Int)), l.length ≤ needN l
  | [] => Nat.zero_le _
  | x :: l => by have := needN_ge l; rw [needN_cons, List.length_cons]; omega
theorem all_drop {α : Type} {p : α → Bool} {l : List α} (h : l.all p = true) {i : Nat} (hi : i < l.length) : p l[i] = true := List.all_eq_true.1 h _ (List.getElem_mem hi)
theorem all_take {α : Type} {p : α → Bool} {l : List α} {i : Nat} (hi : i < l.length) (h : (l.take i).all p = true) (hp : p l[i] = true) : (l.take (i + 1)).all p = true := by
  rw [List.take_succ_eq_append_getElem hi, List.all_append, h]; simp [hp]
theorem all_not {α : Type} {p : α → Bool} {l : List α} {i : Nat} (hi : i < l.length) (hp : p l[i] = false) : l.all p = false := by
  rw [List.all_eq_false]; exact ⟨_, List.getElem_mem hi, by rw [hp]; decide⟩
attribute [local irreducible] crk crL crc Sl pt ro Dev imgS recS
set_option maxRecDepth 20000 in
set_option maxHeartbeats 2000000 in
theorem Write_c {A R : SP} {C : SP → SP} {d : Nat} {s : DevS} (hc : Ct A (Dev d s) R C := by repeat (first | with_reducible exact ct_here | apply ct_left)) {bl at_ sz : Nat} (hl : Has R bl (cl (lcs11 d at_ sz) 94) := by (repeat (first | assumption | with_reducible exact has_here | with_reducible exact has_pt | apply has_left))) (hlw : LogW (s.ls.length * 64) at_ sz := by assumption) {a : Option Addr} {c m : Nat} {xs : List (Int × Int)} (hr : Rs R a (xcl xs) := by repeat (first | assumption | with_reducible exact rs_sl | with_reducible exact rs_pt0 | exact rs_none | apply Rs.left)) (hm : xs.length = m := by first | assumption | rfl) (hX : ∀ x ∈ xs, XW x := by assumption) (hml : m ≤ 17592186044416 := by omega) (hroom : Room (sz + 1) s := by assumption) :
    Fn Tryz.prog 23 #[.pointer (some ⟨bl, 0, none⟩), .slice a m c] (A) (fun r B => ∃ e s2, writeS at_ sz xs s = (e, s2) ∧ r = .int .i64 e ∧ B = C (Dev d s2)) := by
  refine fn_enterW (args := [.pointer (some ⟨bl, 0, none⟩), .slice a m c]) Tryz.func23 rfl Tryz.ntmps23 (by simp) ?_; refine tc_have (fun _ _ h => ct_wf2 hc h) fun hw => ?_
  have htop := hw.top
  have hpos := hw.pos
  obtain ⟨rfl, hC⟩ := hc
  have hAC : ∀ g w, sat g w (R * Dev d s) → sat g w (C (Dev d s)) := fun g w h => by rw [hC]; exact h
  have hlw9 := hlw
  obtain ⟨w1, w2, w3, w4, w5⟩ := hlw9
  refine sr ?_; refine tla ?_; refine nq ?_; refine tc_seq ?_; refine sr ?_; refine tlm ?_; refine tl_c rfl (o_call bd57 rfl (ready11_c (s := s) (hl := hl))) ?_; rintro _ _ ⟨rfl, rfl⟩; refine tla ?_; refine nq ?_; refine sr ?_; refine tlm ?_; refine tv (o_nei rfl rfl) ?_; refine nq ?_; refine tc_cond rfl (fun h => ?_) (fun h => ?_)
  · try simp only [lv1, lv2, lv3, lv4, lv5, lv6, Bool.not_true, Bool.not_false] at h
    refine sr ?_; refine tlm ?_; refine tla ?_; refine nq ?_; refine tc_ret ?_; refine q_then_r ?_
    have ho := stE_off h
    exact ⟨.int .i64 (stE s), C (Dev d s), res1 rfl rfl, fun _ _ h => by rw [hC]; exact (Dr.sat (A' := R * Dev d s) drqz) _ _ h, stE s, s, by unfold writeS stE; rw [if_pos ho, if_pos ho], rfl, rfl⟩
  · have ho : s.off = false := stE_on (by simpa using h)
    have hw2 := word_in (p := at_) ho oqz oqz
    obtain ⟨v, hv⟩ : ∃ v, (wordP (at_ : Nat) s).1 = v := ⟨_, rfl⟩
    have hvl : v < 18446744073709551616 := by rw [← hv, hw2]; exact nm8_lt fun x hx => img_lt x (List.mem_of_mem_drop hx)
    refine tc_skip ?_; refine q_then_n ?_; refine tc_seq ?_; refine tc_seq ?_; refine tc_regq mo kqz ?_; refine ql_v rfl (o_move (by conv => lhs; whnf)) ?_; refine ql_v rfl (o_nilCheck rfl) ?_; refine ql_v rfl (o_fieldAddr (o := 0) Tryz.underlying94 rfl rfl sz28 rfl) ?_; refine ql_v rfl (o_load p28 rfl haqz rfl) ?_; refine ql_v rfl (o_move (by conv => lhs; whnf)) ?_; refine ql_v rfl (o_nilCheck rfl) ?_; refine ql_v rfl (o_fieldAddr (o := 1) Tryz.underlying94 rfl rfl sz3 rfl) ?_; refine ql_v rfl (o_load p3 rfl haqz rfl) ?_; refine ql_c rfl (fun w => exec_call bd58 rfl) (Word_c (s := s) (p := (at_ : Nat))) ?_; refine ql_v rfl (o_move (by conv => lhs; whnf)) ?_; refine ql_v rfl (o_extract rfl rfl) ?_; refine ql_env (d := 36) (v := .int .u64 (v : Nat)) (by show Value.int .u64 ((wordP (at_ : Nat) s).1 : Nat) = _; rw [hv]) ?_; refine ql_v rfl (o_extract rfl rfl) ?_; refine ql_env (d := 37) (v := .int .i64 0) (by show Value.int .i64 (wordP (at_ : Nat) s).2 = _; rw [hw2]) ?_; refine ql_v rfl (o_assign (by conv => lhs; whnf)) ?_; refine ql_v rfl (o_assign (by conv => lhs; whnf)) ?_; refine ql_nil ?_; refine q_then_n ?_; refine sr ?_; refine tlm ?_; refine tv (o_nei rfl rfl) ?_; refine tlm ?_; refine tl_bool (d := 40) rfl (fun h => ?_) (fun h => ?_)
    · exfalso; simp at h
    · try simp only [lv1, lv2, lv3, lv4, lv5, lv6, Bool.not_true, Bool.not_false] at h
      refine tlm ?_; refine tv (o_nei rfl rfl) ?_; refine tv (o_pick_f rfl (by conv => lhs; whnf)) ?_; refine nq ?_; refine tc_cond rfl (fun h => ?_) (fun h => ?_)
      · have hv0 : v ≠ 0 := by first | (have h9 := of_decide_eq_true h; omega) | (simp at h; omega)
        refine sr ?_; refine tla ?_; refine nq ?_; refine tc_ret ?_; refine q_then_r ?_; exact ⟨.int .i64 (3), C (Dev d s), res1 rfl rfl, fun _ _ h => by rw [hC]; exact (Dr.sat (A' := R * Dev d s) drqz) _ _ h, 3, s, by unfold writeS; rw [if_neg (by rw [ho]; decide), if_pos (by rw [hv]; exact hv0)], rfl, rfl⟩
      · have hv0 : ¬ v ≠ 0 := by first | (have h9 := of_decide_eq_false h; omega) | (simp at h; omega)
        refine tc_skip ?_; refine q_then_n ?_; refine sr ?_; refine tla ?_; refine nq ?_; refine tc_seq ?_; refine sr ?_; refine tlm ?_; refine tv (o_len Tryz.underlying47 rfl) ?_; refine tlm ?_; refine nq ?_; refine tc_block ?_; refine tc_pre (A' := R * Dev d s * Sl 1 (.slice none 0 0) 0 (ints (lensX (xs.take 0)))) (fun _ _ h => sl_nil h) ?_; refine tc_loop (fun kk ρ BB => ∃ (i : Nat) (a8 : Option Addr) (c8 : Nat), (i ≤ m) ∧ ((xs.take i).all (mayX (s.ls.length * 64) at_ sz) = true) ∧ (i ≤ c8) ∧ kk = m - i ∧ ρ 8 = .slice a8 i c8 ∧ ρ 46 = .int .i64 (i : Nat) ∧ ρ 0 = .pointer (some ⟨bl, 0, none⟩) ∧ ρ 1 = .slice a m c ∧ ρ 44 = .slice a m c ∧ ρ 45 = .int .i64 (m : Nat) ∧ Dr BB (R * Dev d s * Sl 1 (.slice a8 i c8) i (ints (lensX (xs.take i))))) (m := m - (0)) ?_ ?_
        · exact ⟨0, none, 0, by omega, rfl, by omega, rfl, rfl, rfl, rfl, rfl, rfl, rfl, drqz⟩
        · intro k ρ B hI
          obtain ⟨i, a8, c8, hp0, hp1, hp2, hkk1, hE8, hE46, hE0, hE1, hE44, hE45, hBA⟩ := hI
          refine tc_pre hBA.sat ?_
          clear hBA
          refine tc_env (d := 8) hE8 ?_; refine tc_env (d := 46) hE46 ?_; refine tc_env (d := 0) hE0 ?_; refine tc_env (d := 1) hE1 ?_; refine tc_env (d := 44) hE44 ?_; refine tc_env (d := 45) hE45 ?_
          clear hE8 hE46 hE0 hE1 hE44 hE45
          refine sr ?_; refine tv (o_lss rfl rfl) ?_; refine nq ?_; refine tc_seq ?_; refine tc_cond rfl (fun h => ?_) (fun h => ?_)
          · have hi : i < xs.length := by first | omega | (simp at h; omega)
            obtain ⟨x, hx1⟩ : ∃ x, xs[i] = x := ⟨_, rfl⟩
            have hxw : XW x := hX x (hx1 ▸ List.getElem_mem hi)
            refine tc_skip ?_; refine q_then_n ?_; refine tc_seq ?_; refine tc_block ?_; refine sr ?_; refine tv (o_ixP (a := a) Tryz.underlying47 sz82 rfl rfl oqz (nn_rs sq4z (fun _ => by rw [xcl_len]; omega))) ?_; refine tv (o_ldPN (a := a) (xs := xcl xs) (vs := xcs x) a82 sz82 rfl sq4z (by rw [xcl_at oqz, hx1]) rfl (by decide)) ?_; refine tl_x rfl (o_alloc z82 rfl) ?_; rintro _ _ ⟨b10, rfl, rfl⟩; refine tl_u rfl (o_stUN (l' := xcs x) rfl upqz sz82 rfl rfl rfl (by show 2 ≤ 2; decide) rfl) ?_; refine nq ?_; refine tc_seq ?_; refine sr ?_; refine tlm ?_; refine tv (o_loadN (vs := xcs x) a82 sz82 rfl hsqz (by show 2 ≤ 2; decide) rfl) ?_; refine tl_c rfl (o_call bd59 rfl (may11_c (s := s) (x := x) (hl := has_left (has_left (has_left hl))))) ?_; rintro _ _ ⟨rfl, rfl⟩; refine tv (o_not rfl) ?_; refine nq ?_; refine tc_cond rfl (fun h => ?_) (fun h => ?_)
            · have hmy : mayX (s.ls.length * 64) at_ sz x = false := by simpa using h
              refine sr ?_; refine tla ?_; refine nq ?_; refine tc_ret ?_; refine q_then_r (q_block_r (q_then_r (q_then_r (q_block_r (q_then_r ?_))))); exact ⟨.int .i64 (6), C (Dev d s), res1 rfl rfl, fun _ _ h => by rw [hC]; exact (Dr.sat (A' := R * Dev d s) drqz) _ _ h, 6, s, by unfold writeS; rw [if_neg (by rw [ho]; decide), if_neg (by rw [hv]; exact hv0), if_pos (all_not hi (by rw [hx1]; exact hmy))], rfl, rfl⟩
            · have hmy : mayX (s.ls.length * 64) at_ sz x = true := by simpa using h
              refine tc_skip ?_; refine q_then_n ?_; refine tc_reg ?_; refine tlm ?_; refine tv (o_fieldAddr (o := 1) Tryz.underlying82 rfl rfl sz3 rfl) ?_; refine tv (by first | exact o_load p3 rfl hsqz rfl | exact o_loadC p3 rfl (by assumption)) ?_; refine tl_x rfl (o_buildSlice1 Tryz.underlying48 sz3 z3 (by conv => lhs; whnf) rfl) ?_; rintro _ _ ⟨b57, rfl, rfl⟩; refine tl_x rfl (o_apB Tryz.underlying48 Tryz.underlying48 sz3 by3 z3 rfl (by decide) (by decide) rfl rfl rfl ctqz rfl (by first | exact bys_all _ | exact ints_all _ | exact wds_all _ | exact bos_all _ | rfl) sq1z (by first | exact bys_sn _ _ | exact ints_sn _ _ | exact wds_sn _ _ | exact bos_sn _ _ | exact (bys_append _ _).symm | rfl)) ?_; rintro _ _ ⟨a58, c58, rfl, hc58, rfl⟩; refine tla ?_; refine tl_nil ?_; refine q_block_n (q_then_n ?_); refine tc_reg ?_; refine tv adqz ?_; refine tlm ?_; refine nq ?_
              exact ⟨_, by omega, i + 1, _, _, by omega, all_take hi hp1 (by rw [hx1]; exact hmy), hc58, rfl, rfl, rfl, rfl, rfl, rfl, rfl, by rw [lensX_succ hi, hx1]; repeat (first | with_reducible exact dr_refl | apply dr_keep | apply dr_drop)⟩
          · obtain rfl : i = m := by first | omega | (simp at h; omega)
            have htk : xs.take i = xs := List.take_of_length_le oqz
            rw [htk] at hp1
            refine tc_pre (A' := R * Dev d s * Sl 1 (.slice a8 i c8) i (ints (lensX xs))) (fun _ _ h => by rw [htk] at h; exact h) ?_
            obtain ⟨nd, en, hnd⟩ : ∃ nd en, needS (lensX xs) = (nd, en) := ⟨_, _, rfl⟩
            have hxl : ∀ x ∈ lensX xs, -9223372036854775808 ≤ x ∧ x ≤ 9223372036854775807 := fun x hx => by obtain ⟨y, hy, rfl⟩ := List.mem_map.1 hx; exact (hX y hy).l
            have hx1 : ∀ x ∈ xs, 1 ≤ x.2 := fun x hx => by obtain ⟨p, n, rfl, _, hn, _⟩ := may_nat (List.all_eq_true.1 hp1 x hx); show (1 : Int) ≤ (n : Int); omega
            have hnd2 : en = 0 → nd = (needN xs : Nat) := fun h9 => by have := needF_ok hx1 hnd h9; omega
            refine tc_exit ?_; refine q_then_e (q_then_e (q_block_x (q_then_n ?_))); refine sr ?_; refine tlm ?_; refine tl_c rfl (o_call bd60 rfl (Need_c (xs := lensX xs) (hr := rs_sl) (hm := (lensX_len xs).trans hm) (hx := hxl))) ?_; rintro _ _ ⟨rfl, rfl⟩; refine tlm ?_; refine tv (o_extract rfl rfl) ?_; refine tl_env (d := 63) (v := .int .i64 nd) (by show Value.int .i64 (needS (lensX xs)).1 = _; rw [hnd]) ?_; refine tv (o_extract rfl rfl) ?_; refine tl_env (d := 64) (v := .int .i64 en) (by show Value.int .i64 (needS (lensX xs)).2 = _; rw [hnd]) ?_; refine tla ?_; refine tla ?_; refine nq ?_; refine tc_seq ?_; refine tc_seq ?_; refine tc_cut (fun ρ BB => ∃ (bb : Bool), (bb = decide (en ≠ 0 ∨ ((sz - 64 : Nat) : Int) < nd)) ∧ ρ 75 = .bool bb ∧ ρ 0 = .pointer (some ⟨bl, 0, none⟩) ∧ ρ 1 = .slice a i c ∧ ρ 11 = .int .i64 nd ∧ Dr BB (R * Dev d s)) ?_ ?_
            · skip
              refine tc_reg ?_; refine tlm ?_; refine tv (o_nei rfl rfl) ?_; refine tlm ?_; refine tl_bool (d := 67) rfl (fun h => ?_) (fun h => ?_)
              · have g67 : (en ≠ 0) := by first | exact of_decide_eq_true h | (have h2 := h; simp at h2; omega) | simpa using h
                refine tk ?_; refine tk ?_; refine tk ?_; refine tk ?_; refine tk ?_; refine tk ?_; refine tk ?_; refine tv (o_pick_t rfl (by conv => lhs; whnf)) ?_; refine tl_nil ?_; exact ⟨_, by first | exact (decide_eq_true oqz).symm | exact (decide_eq_false oqz).symm | (rw [decide_eq_decide]; omega), rfl, rfl, rfl, rfl, drqz⟩
              · have g67 : ¬ (en ≠ 0) := by first | exact of_decide_eq_false h | (have h2 := h; simp at h2; omega) | simpa using h
                refine tlm ?_; refine tlm ?_; refine tv (o_nilCheck rfl) ?_; refine tv (o_fieldAddr (o := 2) Tryz.underlying94 rfl rfl sz3 rfl) ?_; refine tv (o_load p3 rfl haqz rfl) ?_; refine tv (o_subI rfl rfl oqz) ?_; refine tl_env (d := 73) (v := .int .i64 ((sz - 64 : Nat) : Int)) (by show Value.int .i64 ((sz : Int) - 64) = _; congr 1; omega) ?_; refine tv (o_gtr rfl rfl) ?_; refine tv (o_pick_f rfl (by conv => lhs; whnf)) ?_; refine tl_nil ?_; exact ⟨_, by first | exact (decide_eq_true oqz).symm | exact (decide_eq_false oqz).symm | (rw [decide_eq_decide]; omega), rfl, rfl, rfl, rfl, drqz⟩
            · intro ρ B hI
              obtain ⟨bb, hbb0, hE75, hE0, hE1, hE11, hBA⟩ := hI
              refine q_then_n ?_; refine tc_pre hBA.sat ?_
              clear hBA
              refine tc_env (d := 75) hE75 ?_; refine tc_env (d := 0) hE0 ?_; refine tc_env (d := 1) hE1 ?_; refine tc_env (d := 11) hE11 ?_
              clear hE75 hE0 hE1 hE11
              refine tc_cond rfl (fun h => ?_) (fun h => ?_)
              · have hful := of_decide_eq_true (show decide (en ≠ 0 ∨ ((sz - 64 : Nat) : Int) < nd) = true by rw [← hbb0]; exact h)
                refine sr ?_; refine tla ?_; refine nq ?_; refine tc_ret ?_; refine q_then_r ?_; exact ⟨.int .i64 (111), C (Dev d s), res1 rfl rfl, fun _ _ h => by rw [hC]; exact (Dr.sat (A' := R * Dev d s) drqz) _ _ h, 111, s, by unfold writeS; rw [if_neg (by rw [ho]; decide), if_neg (by rw [hv]; exact hv0), if_neg (by rw [hp1]; decide), hnd, if_pos hful], rfl, rfl⟩
              · have hful := of_decide_eq_false (show decide (en ≠ 0 ∨ ((sz - 64 : Nat) : Int) < nd) = false by rw [← hbb0]; exact h)
                obtain rfl : en = 0 := by omega
                obtain rfl := hnd2 rfl
                have hN : needN xs ≤ sz - 64 := by omega
                refine tc_skip ?_; refine q_then_n ?_; refine tc_seq ?_; refine sr ?_; refine tlm ?_; refine tv (o_eqi rfl rfl) ?_; refine nq ?_; refine tc_cond rfl (fun h => ?_) (fun h => ?_)
                · have hx0 : xs = [] := by have h9 := needN_ge xs; have h8 : needN xs = 0 := (by first | (have := of_decide_eq_true h; omega) | (simp at h; omega)); exact List.eq_nil_of_length_eq_zero oqz
                  refine sr ?_; refine tla ?_; refine nq ?_; refine tc_ret ?_; refine q_then_r ?_; exact ⟨.int .i64 (0), C (Dev d s), res1 rfl rfl, fun _ _ h => by rw [hC]; exact (Dr.sat (A' := R * Dev d s) drqz) _ _ h, 0, s, by unfold writeS; rw [if_neg (by rw [ho]; decide), if_neg (by rw [hv]; exact hv0), if_neg (by rw [hp1]; decide), hnd, if_neg hful, if_pos hx0], rfl, rfl⟩
                · have hx0 : xs ≠ [] := fun e => by subst e; first | exact of_decide_eq_false h rfl | exact h rfl | (simp [needN] at h)
                  have hxl0 : 0 < xs.length := List.length_pos_iff.2 hx0
                  have hN1 := needN_ge xs
                  refine tc_skip ?_; refine q_then_n ?_; refine sr ?_; refine tlm ?_; refine tv (o_nilCheck rfl) ?_; refine tv (o_fieldAddr (o := 1) Tryz.underlying94 rfl rfl sz3 rfl) ?_; refine tv (o_load p3 rfl haqz rfl) ?_; refine tv adqz ?_; refine tl_env (d := 82) (v := .int .i64 ((at_ + 64 : Nat) : Int)) (by first | rfl | (show Value.int .i64 _ = _; congr 1; omega)) ?_; refine tla ?_; refine nq ?_; refine tc_seq ?_; refine sr ?_; refine tlm ?_; refine tv (o_len Tryz.underlying47 rfl) ?_; refine tlm ?_; refine nq ?_; refine tc_block ?_; refine tc_loop (fun kk ρ BB => ∃ (j : Nat) (q : Nat) (s1 : DevS), (j ≤ i) ∧ (putF (at_ + 64) xs s = putF q (xs.drop j) s1) ∧ (s1.off = false) ∧ (s1.ls.length = s.ls.length) ∧ (q + needN (xs.drop j) = at_ + 64 + needN xs) ∧ (Room (needN (xs.drop j) + 1) s1) ∧ kk = i - j ∧ ρ 13 = .int .i64 (q : Nat) ∧ ρ 85 = .int .i64 (j : Nat) ∧ ρ 0 = .pointer (some ⟨bl, 0, none⟩) ∧ ρ 1 = .slice a i c ∧ ρ 11 = .int .i64 (needN xs : Nat) ∧ ρ 83 = .slice a i c ∧ ρ 84 = .int .i64 (i : Nat) ∧ Dr BB (R * Dev d s1)) (m := i - (0)) ?_ ?_
                  · exact ⟨0, at_ + 64, s, by omega, rfl, ho, rfl, by rw [List.drop_zero], fun l hl => by have := hroom l hl; rw [List.drop_zero]; omega, rfl, rfl, rfl, rfl, rfl, rfl, rfl, rfl, drqz⟩
                  · intro k ρ B hI
                    obtain ⟨j, q, s1, hq0, hq1, hq2, hq3, hq4, hq5, hkk2, hE13, hE85, hE0, hE1, hE11, hE83, hE84, hBA⟩ := hI
                    refine tc_pre hBA.sat ?_
                    clear hBA
                    refine tc_env (d := 13) hE13 ?_; refine tc_env (d := 85) hE85 ?_; refine tc_env (d := 0) hE0 ?_; refine tc_env (d := 1) hE1 ?_; refine tc_env (d := 11) hE11 ?_; refine tc_env (d := 83) hE83 ?_; refine tc_env (d := 84) hE84 ?_
                    clear hE13 hE85 hE0 hE1 hE11 hE83 hE84
                    refine sr ?_; refine tv (o_lss rfl rfl) ?_; refine nq ?_; refine tc_seq ?_; refine tc_cond rfl (fun h => ?_) (fun h => ?_)
                    · have hj : j < xs.length := by first | omega | (simp at h; omega)
                      obtain ⟨x, hx1⟩ : ∃ x, xs[j] = x := ⟨_, rfl⟩
                      have hmx := all_drop hp1 hj
                      have hdr := List.drop_eq_getElem_cons hj
                      rw [hx1] at hmx hdr
                      obtain ⟨p, n, rfl, y1, y2, y3, y4⟩ := may_nat hmx
                      rw [hdr, needN_cons] at hq4 hq5
                      simp only [Int.toNat_natCast] at hq4 hq5
                      refine tc_have (fun _ _ h => ct_wf2 ctqz h) fun hw1 => ?_
                      have hil := imgS_len hw1
                      have hol : (((imgS s1).drop p).take n).length = n := by rw [List.length_take, List.length_drop, hil, hq3]; omega
                      have hrl : (recS p (((imgS s1).drop p).take n)).length = 24 + up8 n := by rw [recS_len, hol]
                      have hrb : ∀ x ∈ recS p (((imgS s1).drop p).take n), x < 256 := recS_b img_sub
                      have hu8 := up8_le n
                      refine tc_skip ?_; refine q_then_n ?_; refine tc_seq ?_; refine tc_block ?_; refine sr ?_; refine tv (o_ixP (a := a) Tryz.underlying47 sz82 rfl rfl oqz (nn_rs sq4z (fun _ => by rw [xcl_len]; omega))) ?_; refine tv (o_ldPN (a := a) (xs := xcl xs) (vs := xcs ((p : Int), (n : Int))) a82 sz82 rfl sq4z (by rw [xcl_at oqz, hx1]) rfl (by decide)) ?_; refine tl_x rfl (o_alloc z82 rfl) ?_; rintro _ _ ⟨b15, rfl, rfl⟩; refine tl_u rfl (o_stUN (l' := xcs ((p : Int), (n : Int))) rfl upqz sz82 rfl rfl rfl (by show 2 ≤ 2; decide) rfl) ?_; refine nq ?_; refine tc_seq ?_; refine tc_regh (S := R * pt b15 (cl (xcs ((p : Int), (n : Int))) 82)) mo drqz ?_
                      show TH _ _ _ _ _ 14 #[ff,ff,ff,ff,ff,ff,ff,ff,ff,ff,ff,ff,ff,ff] _ _
                      refine th_take (i := 0) (listed' := #[tt,ff,ff,ff,ff,ff,ff,ff,ff,ff,ff,ff,ff,ff]) rfl kqz kqz kqz rfl rfl (o_move (by conv => lhs; whnf)) ?_; refine th_take (i := 1) (listed' := #[tt,tt,ff,ff,ff,ff,ff,ff,ff,ff,ff,ff,ff,ff]) rfl kqz kqz kqz rfl rfl (o_nilCheck rfl) ?_; refine th_take (i := 2) (listed' := #[tt,tt,tt,ff,ff,ff,ff,ff,ff,ff,ff,ff,ff,ff]) rfl kqz kqz kqz rfl rfl (o_fieldAddr (o := 0) Tryz.underlying94 rfl rfl sz28 rfl) ?_; refine th_take (i := 3) (listed' := #[tt,tt,tt,tt,ff,ff,ff,ff,ff,ff,ff,ff,ff,ff]) rfl kqz kqz kqz rfl rfl (o_load p28 rfl haqz rfl) ?_; refine th_take (i := 4) (listed' := #[tt,tt,tt,tt,tt,ff,ff,ff,ff,ff,ff,ff,ff,ff]) rfl kqz kqz kqz rfl rfl (o_fieldAddr (o := 0) Tryz.underlying82 rfl rfl sz3 rfl) ?_; refine th_take (i := 5) (listed' := #[tt,tt,tt,tt,tt,tt,ff,ff,ff,ff,ff,ff,ff,ff]) rfl kqz kqz kqz rfl rfl (by first | exact o_load p3 rfl hsqz rfl | exact o_loadC p3 rfl (by assumption)) ?_; refine th_take (i := 6) (listed' := #[tt,tt,tt,tt,tt,tt,tt,ff,ff,ff,ff,ff,ff,ff]) rfl kqz kqz kqz rfl rfl (o_fieldAddr (o := 1) Tryz.underlying82 rfl rfl sz3 rfl) ?_
                      refine th_take (i := 7) (listed' := #[tt,tt,tt,tt,tt,tt,tt,tt,ff,ff,ff,ff,ff,ff]) rfl kqz kqz kqz rfl rfl (by first | exact o_load p3 rfl hsqz rfl | exact o_loadC p3 rfl (by assumption)) ?_; refine th_one (i := 8) kqz ?_; refine oh_c (i := 8) (listed' := #[tt,tt,tt,tt,tt,tt,tt,tt,tt,ff,ff,ff,ff,ff]) rfl rfl rfl (o_call bd27 rfl (Load_c (s := s1) (p := p) (m := n))) ?_; rintro _ _ ⟨a98, c98, rfl, hc98, rfl⟩; refine ⟨by repeat (first | with_reducible exact dr_refl | apply dr_keep | apply dr_drop), ?_⟩; refine th_take (i := 9) (listed' := #[tt,tt,tt,tt,tt,tt,tt,tt,tt,tt,ff,ff,ff,ff]) rfl kqz kqz kqz rfl rfl (o_move (by conv => lhs; whnf)) ?_; refine th_take (i := 10) (listed' := #[tt,tt,tt,tt,tt,tt,tt,tt,tt,tt,tt,ff,ff,ff]) rfl kqz kqz kqz rfl rfl (o_extract rfl rfl) ?_; refine th_take (i := 11) (listed' := #[tt,tt,tt,tt,tt,tt,tt,tt,tt,tt,tt,tt,ff,ff]) rfl kqz kqz kqz rfl rfl (o_extract rfl rfl) ?_; refine th_take (i := 12) (listed' := #[tt,tt,tt,tt,tt,tt,tt,tt,tt,tt,tt,tt,tt,ff]) rfl kqz kqz kqz rfl rfl (o_assign (by conv => lhs; whnf)) ?_
                      refine th_take (i := 13) (listed' := #[tt,tt,tt,tt,tt,tt,tt,tt,tt,tt,tt,tt,tt,tt]) rfl kqz kqz kqz rfl rfl (o_assign (by conv => lhs; whnf)) ?_; refine th_done kqz ?_; refine q_then_n ?_; refine tc_seq ?_; refine sr ?_; refine tlm ?_; refine tv (o_nei rfl rfl) ?_; refine nq ?_; refine tc_cond rfl (fun h => ?_) (fun h => ?_)
                      · exfalso; simp at h
                      · try simp only [lv1, lv2, lv3, lv4, lv5, lv6, Bool.not_true, Bool.not_false] at h
                        refine tc_skip ?_; refine q_then_n ?_; refine sr ?_; refine tv (o_fieldAddr (o := 0) Tryz.underlying82 rfl rfl sz3 rfl) ?_; refine tv (by first | exact o_load p3 rfl hsqz rfl | exact o_loadC p3 rfl (by assumption)) ?_; refine tlm ?_; refine tl_c rfl (o_call bd61 rfl (record_c (p := p) (xs := ((imgS s1).drop p).take n) (hr := rs_sl) (hm := hol) (hb := img_sub))) ?_; rintro _ _ ⟨a107, c107, rfl, hc107, rfl⟩; refine tla ?_; refine nq ?_; refine tc_seq ?_; refine sr ?_; refine tlm ?_; refine tv (o_nilCheck rfl) ?_; refine tv (o_fieldAddr (o := 0) Tryz.underlying94 rfl rfl sz28 rfl) ?_; refine tv (o_load p28 rfl haqz rfl) ?_; refine tlm ?_; refine tlm ?_; refine tl_c rfl (o_call bd24 rfl (Store_c (s := s1) (p := (q : Nat)) (xs := recS p (((imgS s1).drop p).take n)) (hm := hrl) (hb := hrb) (hroom := fun _ l hl => by have := hq5 l hl; omega))) ?_
                        rintro _ _ ⟨e114, s114, hs114, rfl, rfl⟩; refine tla ?_; refine nq ?_; refine sr ?_; refine tlm ?_; refine tv (o_nei rfl rfl) ?_; refine nq ?_; refine tc_cond rfl (fun h => ?_) (fun h => ?_)
                        · have he0 : e114 ≠ 0 := by simpa using h
                          have hput : putF (at_ + 64) xs s = (e114, s114) := by rw [hq1, hdr]; exact putF_e hs114 he0
                          refine sr ?_; refine tlm ?_; refine tla ?_; refine nq ?_; refine tc_ret ?_; refine q_then_r (q_block_r (q_then_r (q_then_r (q_block_r (q_then_r ?_))))); exact ⟨.int .i64 (e114), C (Dev d s114), res1 rfl rfl, fun _ _ h => by rw [hC]; exact (Dr.sat (A' := R * Dev d s114) drqz) _ _ h, e114, s114, by unfold writeS; rw [if_neg (by rw [ho]; decide), if_neg (by rw [hv]; exact hv0), if_neg (by rw [hp1]; decide), hnd, if_neg hful, if_neg hx0, hput, if_pos he0], rfl, rfl⟩
                        · obtain rfl : e114 = 0 := by simpa using h
                          refine tc_skip ?_; refine q_then_n ?_; refine tc_reg ?_; refine tlm ?_; refine tlm ?_; refine tv (o_len Tryz.underlying22 rfl) ?_; refine tv adqz ?_; refine tl_env (d := 121) (v := .int .i64 ((q + (24 + up8 n) : Nat) : Int)) (by first | rfl | (show Value.int .i64 _ = _; congr 1; omega)) ?_; refine tla ?_; refine tl_nil ?_; refine q_block_n (q_then_n ?_); refine tc_reg ?_; refine tv adqz ?_; refine tlm ?_; refine nq ?_; exact ⟨_, by omega, j + 1, _, _, by omega, by rw [hq1, hdr]; exact putF_o hs114, by rw [sto_on hs114]; exact hq2, by have h9 := sto_len (q : Nat) (recS p (((imgS s1).drop p).take n)) s1; rw [hs114] at h9; exact h9.trans hq3, by omega, sto_room hs114 hw1 hrb (fun l hl => by have := hq5 l hl; rw [hrl]; omega), rfl, rfl, rfl, rfl, rfl, rfl, rfl, rfl, drqz⟩
                    · obtain rfl : j = i := by first | omega | (simp at h; omega)
                      have hput : putF (at_ + 64) xs s = (0, s1) := by rw [hq1, List.drop_eq_nil_of_le oqz]; rfl
                      refine tc_have (fun _ _ h => ct_wf2 ctqz h) fun hw1 => ?_
                      have hr1 : Room 1 s1 := fun l hl => by have := hq5 l hl; omega
                      refine tc_exit ?_; refine q_then_e (q_then_e (q_block_x (q_then_n ?_))); refine tc_seq ?_; refine tc_seq ?_; refine tc_regh (S := R) mo drqz ?_
                      show TH _ _ _ _ _ 12 #[ff,ff,ff,ff,ff,ff,ff,ff,ff,ff,ff,ff] _ _
                      refine th_take (i := 0) (listed' := #[tt,ff,ff,ff,ff,ff,ff,ff,ff,ff,ff,ff]) rfl kqz kqz kqz rfl rfl (o_move (by conv => lhs; whnf)) ?_; refine th_take (i := 1) (listed' := #[tt,tt,ff,ff,ff,ff,ff,ff,ff,ff,ff,ff]) rfl kqz kqz kqz rfl rfl (o_nilCheck rfl) ?_; refine th_take (i := 2) (listed' := #[tt,tt,tt,ff,ff,ff,ff,ff,ff,ff,ff,ff]) rfl kqz kqz kqz rfl rfl (o_fieldAddr (o := 0) Tryz.underlying94 rfl rfl sz28 rfl) ?_; refine th_take (i := 3) (listed' := #[tt,tt,tt,tt,ff,ff,ff,ff,ff,ff,ff,ff]) rfl kqz kqz kqz rfl rfl (o_load p28 rfl haqz rfl) ?_; refine th_take (i := 4) (listed' := #[tt,tt,tt,tt,tt,ff,ff,ff,ff,ff,ff,ff]) rfl kqz kqz kqz rfl rfl (o_move (by conv => lhs; whnf)) ?_; refine th_take (i := 5) (listed' := #[tt,tt,tt,tt,tt,tt,ff,ff,ff,ff,ff,ff]) rfl kqz kqz kqz rfl rfl (o_nilCheck rfl) ?_; refine th_take (i := 6) (listed' := #[tt,tt,tt,tt,tt,tt,tt,ff,ff,ff,ff,ff]) rfl kqz kqz kqz rfl rfl (o_fieldAddr (o := 1) Tryz.underlying94 rfl rfl sz3 rfl) ?_; refine th_take (i := 7) (listed' := #[tt,tt,tt,tt,tt,tt,tt,tt,ff,ff,ff,ff]) rfl kqz kqz kqz rfl rfl (o_load p3 rfl haqz rfl) ?_
                      refine th_take (i := 8) (listed' := #[tt,tt,tt,tt,tt,tt,tt,tt,tt,ff,ff,ff]) rfl kqz kqz kqz rfl rfl adqz ?_; refine th_env (d := 131) (v := .int .i64 ((at_ + 64 : Nat) : Int)) (by first | rfl | (show Value.int .i64 _ = _; congr 1; omega)) ?_; refine th_take (i := 9) (listed' := #[tt,tt,tt,tt,tt,tt,tt,tt,tt,tt,ff,ff]) rfl kqz kqz kqz rfl rfl (o_move (by conv => lhs; whnf)) ?_; refine th_one (i := 10) kqz ?_; refine oh_c (i := 10) (listed' := #[tt,tt,tt,tt,tt,tt,tt,tt,tt,tt,tt,ff]) rfl rfl rfl (o_call bd62 rfl (Range_c (s := s1) (p := ((at_ + 64 : Nat) : Int)) (m := (needN xs : Nat)))) ?_; rintro _ _ ⟨e133, s133, hs133, rfl, rfl⟩; refine ⟨by repeat (first | with_reducible exact dr_refl | apply dr_keep | apply dr_drop), ?_⟩; refine th_take (i := 11) (listed' := #[tt,tt,tt,tt,tt,tt,tt,tt,tt,tt,tt,tt]) rfl kqz kqz kqz rfl rfl (o_assign (by conv => lhs; whnf)) ?_; refine th_done kqz ?_; refine q_then_n ?_; refine sr ?_; refine tlm ?_; refine tv (o_nei rfl rfl) ?_; refine tl_nil ?_
                      refine q_then_n ?_; refine tc_cond rfl (fun h => ?_) (fun h => ?_)
                      · have he1 : e133 ≠ 0 := by simpa using h
                        refine sr ?_; refine tlm ?_; refine tla ?_; refine nq ?_; refine tc_ret ?_; refine q_then_r ?_; exact ⟨.int .i64 (e133), C (Dev d s133), res1 rfl rfl, fun _ _ h => by rw [hC]; exact (Dr.sat (A' := R * Dev d s133) drqz) _ _ h, e133, s133, by unfold writeS; rw [if_neg (by rw [ho]; decide), if_neg (by rw [hv]; exact hv0), if_neg (by rw [hp1]; decide), hnd, if_neg hful, if_neg hx0, hput, if_neg (by simp)]; simp only []; rw [hs133, if_pos he1], rfl, rfl⟩
                      · obtain rfl : e133 = 0 := by simpa using h
                        have hr2 := rangeP_room hs133 hw1 hr1
                        refine tc_skip ?_; refine q_then_n ?_; refine tc_seq ?_; refine tc_regh (S := R) mo drqz ?_
                        show TH _ _ _ _ _ 13 #[ff,ff,ff,ff,ff,ff,ff,ff,ff,ff,ff,ff,ff] _ _
                        refine th_take (i := 0) (listed' := #[tt,ff,ff,ff,ff,ff,ff,ff,ff,ff,ff,ff,ff]) rfl kqz kqz kqz rfl rfl (o_move (by conv => lhs; whnf)) ?_; refine th_take (i := 1) (listed' := #[tt,tt,ff,ff,ff,ff,ff,ff,ff,ff,ff,ff,ff]) rfl kqz kqz kqz rfl rfl (o_nilCheck rfl) ?_; refine th_take (i := 2) (listed' := #[tt,tt,tt,ff,ff,ff,ff,ff,ff,ff,ff,ff,ff]) rfl kqz kqz kqz rfl rfl (o_fieldAddr (o := 0) Tryz.underlying94 rfl rfl sz28 rfl) ?_; refine th_take (i := 3) (listed' := #[tt,tt,tt,tt,ff,ff,ff,ff,ff,ff,ff,ff,ff]) rfl kqz kqz kqz rfl rfl (o_load p28 rfl haqz rfl) ?_; refine th_take (i := 4) (listed' := #[tt,tt,tt,tt,tt,ff,ff,ff,ff,ff,ff,ff,ff]) rfl kqz kqz kqz rfl rfl (o_move (by conv => lhs; whnf)) ?_; refine th_take (i := 5) (listed' := #[tt,tt,tt,tt,tt,tt,ff,ff,ff,ff,ff,ff,ff]) rfl kqz kqz kqz rfl rfl (o_nilCheck rfl) ?_; refine th_take (i := 6) (listed' := #[tt,tt,tt,tt,tt,tt,tt,ff,ff,ff,ff,ff,ff]) rfl kqz kqz kqz rfl rfl (o_fieldAddr (o := 1) Tryz.underlying94 rfl rfl sz3 rfl) ?_; refine th_take (i := 7) (listed' := #[tt,tt,tt,tt,tt,tt,tt,tt,ff,ff,ff,ff,ff]) rfl kqz kqz kqz rfl rfl (o_load p3 rfl haqz rfl) ?_
                        refine th_take (i := 8) (listed' := #[tt,tt,tt,tt,tt,tt,tt,tt,tt,ff,ff,ff,ff]) rfl kqz kqz kqz rfl rfl (o_move (by conv => lhs; whnf)) ?_; refine th_take (i := 9) (listed' := #[tt,tt,tt,tt,tt,tt,tt,tt,tt,tt,ff,ff,ff]) rfl kqz kqz kqz rfl rfl (o_len Tryz.underlying47 rfl) ?_; refine th_take (i := 10) (listed' := #[tt,tt,tt,tt,tt,tt,tt,tt,tt,tt,tt,ff,ff]) rfl kqz kqz kqz rfl rfl (by first | exact o_conv64 Tryz.underlying3 Tryz.underlying66 rfl | exact o_conv Tryz.underlying3 Tryz.underlying66 rfl) ?_; refine th_env (d := 147) (v := .int .u64 ((xs.length : Nat) : Int)) (by rw [hm]; exact congrArg (fun z : Nat => Value.int .u64 (z : Int)) (Nat.mod_eq_of_lt oqz)) ?_; refine th_one (i := 11) kqz ?_; refine oh_c (i := 11) (listed' := #[tt,tt,tt,tt,tt,tt,tt,tt,tt,tt,tt,tt,ff]) rfl rfl rfl (o_call bd63 rfl (Publish_c (s := s133) (p := (at_ : Nat)) (v := xs.length))) ?_; rintro _ _ ⟨e148, s148, hs148, rfl, rfl⟩; refine ⟨by repeat (first | with_reducible exact dr_refl | apply dr_keep | apply dr_drop), ?_⟩; refine th_take (i := 12) (listed' := #[tt,tt,tt,tt,tt,tt,tt,tt,tt,tt,tt,tt,tt]) rfl kqz kqz kqz rfl rfl (o_assign (by conv => lhs; whnf)) ?_
                        refine th_done kqz ?_; refine q_then_n ?_; refine tc_ret ?_; exact ⟨.int .i64 (e148), C (Dev d s148), res1 rfl rfl, fun _ _ h => by rw [hC]; exact (Dr.sat (A' := R * Dev d s148) drqz) _ _ h, e148, s148, by unfold writeS; rw [if_neg (by rw [ho]; decide), if_neg (by rw [hv]; exact hv0), if_neg (by rw [hp1]; decide), hnd, if_neg hful, if_neg hx0, hput, if_neg (by simp)]; simp only []; rw [hs133, if_neg (by simp)]; exact hs148, rfl, rfl⟩
end Go.Vl

namespace Go.Vl
open Go Go.Proofs
/-! ### Losses of power that may come yet -/
def phi (s : DevS) : Nat := s.arms.length + (if s.off = true then 1 else 0)
theorem done_phi (s : DevS) : phi (doneS s) ≤ phi s := by
  unfold phi doneS
  cases e : s.arms with
  | nil => simp [e]
  | cons a ar =>
    simp only
    split
    · simp [e]
    · simp only [goesS, if_true, List.length_cons]; omega
theorem phi_of {s s' : DevS} (h1 : s'.arms = s.arms) (h2 : s'.off = s.off) : phi s' = phi s := by unfold phi; rw [h1, h2]
theorem phi_onLine (f : LineS → LineS) (i : Nat) (s : DevS) : phi (onLine f i s) = phi s := phi_of (onLine_fields f i s).2.1 (onLine_fields f i s).2.2.2.1
theorem lay_phi (q v : Nat) (s : DevS) : phi (layS q v s) = phi s := by unfold layS; exact phi_onLine _ _ _
theorem storeF_phi : ∀ (m : Nat) {p : Nat} {b : List Nat} {s : DevS}, b.length = m → phi (storeF b.length p b s).2 ≤ phi s := by
  intro m
  induction m using Nat.strongRecOn with
  | _ m ih =>
    intro p b s hm
    by_cases h0 : b = []
    · subst h0; rw [storeF_nil]; exact Nat.le_refl _
    · have hpos : 0 < b.length := List.length_pos_iff.2 h0
      rw [storeF_step h0]
      have h1 := done_phi (layS (p - p % 8) (nm (stW p b s)) s)
      rw [lay_phi] at h1
      split
      · exact h1
      · exact Nat.le_trans (ih (b.drop (8 - p % 8)).length (by rw [List.length_drop]; omega) rfl) h1
theorem sto_phi (p : Int) (b : List Nat) (s : DevS) : phi (sto p b s).2 ≤ phi s := by
  unfold sto; split
  · exact Nat.le_refl _
  · exact storeF_phi _ rfl
theorem fl1_phi (p : Int) (s : DevS) : phi (fl1 p s).2 ≤ phi s := by
  unfold fl1; split
  · exact Nat.le_refl _
  · have h1 := done_phi (flushS p.toNat s)
    have : phi (flushS p.toNat s) = phi s := by unfold flushS; exact phi_onLine _ _ _
    show phi (doneS (flushS p.toNat s)) ≤ phi s
    omega
theorem fe_phi (s : DevS) : phi (fe s).2 ≤ phi s := by
  unfold fe; split
  · exact Nat.le_refl _
  · have h1 := done_phi (fenceS s)
    have : phi (fenceS s) = phi s := phi_of rfl rfl
    simp only; omega
theorem flF_phi : ∀ (k q : Nat) (s : DevS), phi (flF k q s).2 ≤ phi s
  | 0, _, s => fe_phi s
  | k + 1, q, s => by
    show phi (if (fl1 ((q * 64 : Nat) : Int) s).1 ≠ 0 then fl1 ((q * 64 : Nat) : Int) s else flF k (q + 1) (fl1 ((q * 64 : Nat) : Int) s).2).2 ≤ _
    have h1 := fl1_phi ((q * 64 : Nat) : Int) s
    split
    · exact h1
    · exact Nat.le_trans (flF_phi k _ _) h1
theorem flL_phi : ∀ (k q : Nat) (s : DevS), phi (flL k q s).2 ≤ phi s
  | 0, _, s => Nat.le_refl _
  | k + 1, q, s => by
    show phi (if (fl1 ((q * 64 : Nat) : Int) s).1 ≠ 0 then fl1 ((q * 64 : Nat) : Int) s else flL k (q + 1) (fl1 ((q * 64 : Nat) : Int) s).2).2 ≤ _
    have h1 := fl1_phi ((q * 64 : Nat) : Int) s
    split
    · exact h1
    · exact Nat.le_trans (flL_phi k _ _) h1
theorem lastS_phi (p m : Nat) (s : DevS) : phi (lastS p m s).2 ≤ phi s := flF_phi _ _ _
theorem st8_phi (p : Int) (v : Nat) (s : DevS) : phi (st8 p v s).2 ≤ phi s := by
  unfold st8; split
  · exact Nat.le_refl _
  · split
    · exact Nat.le_refl _
    · have h1 := done_phi (layS p.toNat v s); rw [lay_phi] at h1; exact h1
theorem pubP_phi (p : Int) (v : Nat) (s : DevS) : phi (pubP p v s).2 ≤ phi s := by
  unfold pubP
  have h1 := st8_phi p v s
  split
  · exact h1
  · exact Nat.le_trans (lastS_phi _ _ _) h1
theorem rangeP_phi (p m : Int) (s : DevS) : phi (rangeP p m s).2 ≤ phi s := by
  unfold rangeP
  split; exact Nat.le_refl _
  split; exact Nat.le_refl _
  split; exact Nat.le_refl _
  exact lastS_phi _ _ _
theorem putF_phi : ∀ (l : List (Int × Int)) (q : Nat) (s : DevS), phi (putF q l s).2 ≤ phi s
  | [], _, _ => Nat.le_refl _
  | x :: l, q, s => by
    show phi (if (sto (q : Nat) (recS x.1.toNat (((imgS s).drop x.1.toNat).take x.2.toNat)) s).1 ≠ 0 then sto (q : Nat) (recS x.1.toNat (((imgS s).drop x.1.toNat).take x.2.toNat)) s
      else putF (q + (24 + up8 x.2.toNat)) l (sto (q : Nat) (recS x.1.toNat (((imgS s).drop x.1.toNat).take x.2.toNat)) s).2).2 ≤ _
    have h1 := sto_phi (q : Nat) (recS x.1.toNat (((imgS s).drop x.1.toNat).take x.2.toNat)) s
    split
    · exact h1
    · exact Nat.le_trans (putF_phi l _ _) h1
theorem writeS_phi (at_ sz : Nat) (l : List (Int × Int)) (s : DevS) : phi (writeS at_ sz l s).2 ≤ phi s := by
  unfold writeS
  have h1 := putF_phi l (at_ + 64) s
  have h2 := rangeP_phi ((at_ + 64 : Nat) : Int) (needS (lensX l)).1 (putF (at_ + 64) l s).2
  repeat' (split; · first | exact Nat.le_refl _ | exact h1 | exact Nat.le_trans h2 h1)
  exact Nat.le_trans (pubP_phi _ _ _) (Nat.le_trans h2 h1)
theorem live_phi {s : DevS} : Live s ↔ phi s = 0 := by
  unfold phi
  constructor
  · intro h; rw [h.off, h.arms]; rfl
  · intro h
    refine ⟨?_, List.eq_nil_of_length_eq_zero oqz⟩
    cases ho : s.off with
    | false => rfl
    | true => rw [ho] at h; simp at h
/-! ### Images, line by line -/
theorem chunk_at {q j : Nat} {I : List Nat} (h : j < 64) : (chunk q I)[j]? = I[q * 64 + j]? := by
  unfold chunk; rw [List.getElem?_take, if_pos h, List.getElem?_drop]
theorem img_ext {n : Nat} {I J : List Nat} (hI : I.length = n * 64) (hJ : J.length = n * 64) (h : ∀ q, q < n → chunk q I = chunk q J) : I = J := by
  apply List.ext_getElem?
  intro i
  rcases Nat.lt_or_ge i (n * 64) with hi | hi
  · have := h (i / 64) oqz
    have h2 := congrArg (fun l => l[i % 64]?) this
    simp only [chunk_at (show i % 64 < 64 by omega), show i / 64 * 64 + i % 64 = i by omega] at h2
    exact h2
  · rw [List.getElem?_eq_none oqz, List.getElem?_eq_none oqz]
/-- Every content of every line is that of an image. -/
def Same (I : List Nat) (s : DevS) : Prop := Poss (fun q c => c = chunk q I) s
/-! ### A number is published -/
theorem pub_loss {X : Nat → List Nat → Prop} {p v : Nat} {s : DevS} (hw : WfD s) (hO : s.off = false) (hc : Poss X s) (hcl : ∀ (q : Nat) (l : LineS), q ≠ p / 64 → s.ls[q]? = some l → l.st.length = 1) (hp8 : p % 8 = 0) (hp : p + 8 ≤ s.ls.length * 64) (hv : v < 18446744073709551616) (hroom : Room 1 s)
    (hX1 : X (p / 64) (chunk (p / 64) (spl (imgS s) p (le 8 v)))) :
    ∃ e s2, pubP (p : Nat) v s = (e, s2) ∧ ((e = 0 ∧ s2.off = false ∧ WfD s2 ∧ Cln s2 ∧ s2.ls.length = s.ls.length ∧ imgS s2 = spl (imgS s) p (le 8 v)) ∨ (e = 5 ∧ Lost X s.ls.length s2)) := by
  have hi : p / 64 < s.ls.length := by omega
  have hwL := layS_wf (at_ := p) hw hroom hv
  have himg := img_lay hw hp8 hi hv hroom
  have hlen : (layS p v s).ls.length = s.ls.length := layS_len _ _ _
  have hP := poss_lay hc hi hwL (by rw [himg]; exact hX1)
  have hst : st8 (p : Nat) v s = (doneE (layS p v s), doneS (layS p v s)) := by
    unfold st8; rw [hO, rdy_ok oqz oqz oqz, if_neg (by decide), if_neg oqz, Int.toNat_natCast]
  unfold pubP
  rw [hst]
  rcases done_loss hwL hP with ⟨h1, h2, h3⟩ | ⟨h1, h2⟩
  · simp only []
    rw [h1, if_neg (by decide), Int.toNat_natCast]
    obtain ⟨e, s2, g1, g2⟩ := lastS_loss (X := X) (p := p) (m := 8) (s := doneS (layS p v s)) (doneS_wf hwL) (by rw [h3, layS_off]; exact hO) (fun q l hl σ hσ => by rw [h2] at hl; exact hP q l hl σ hσ) (by decide) (by rw [h2, hlen]; exact hp) (fun q l hq hl => by
      rw [h2, layS_ls hi, List.getElem?_set_ne oqz] at hl
      exact hcl q l oqz hl)
    refine ⟨e, s2, g1, ?_⟩
    rw [h2, hlen] at g2
    rcases g2 with ⟨a1, a2, a3, a4, a5, a6⟩ | g2
    · exact .inl ⟨a1, a2, a3, a4, a5, by rw [a6]; unfold imgS; rw [h2]; exact himg⟩
    · exact .inr g2
  · simp only []
    rw [h1, if_pos (by decide)]
    exact ⟨5, _, rfl, .inr ⟨rfl, by rw [hlen] at h2; exact h2⟩⟩
/-! ### Records are stored -/
def recsB (I : List Nat) (l : List (Int × Int)) : List Nat := l.flatMap fun x => recS x.1.toNat ((I.drop x.1.toNat).take x.2.toNat)
theorem recsB_cons (I : List Nat) (x : Int × Int) (l : List (Int × Int)) : recsB I (x :: l) = recS x.1.toNat ((I.drop x.1.toNat).take x.2.toNat) ++ recsB I l := rfl
/-- Outside a range the images are alike. -/
def Out (a b : Nat) (I J : List Nat) : Prop := ∀ i, ¬ (a ≤ i ∧ i < b) → I[i]? = J[i]?
theorem Out.refl (a b : Nat) (I : List Nat) : Out a b I I := fun _ _ => rfl
theorem Out.trans {a b : Nat} {I J K : List Nat} (h1 : Out a b I J) (h2 : Out a b J K) : Out a b I K := fun i hi => (h1 i hi).trans (h2 i hi)
theorem out_spl {a b p : Nat} {I c : List Nat} (hp : p + c.length ≤ I.length) (h1 : a ≤ p) (h2 : p + c.length ≤ b) : Out a b (spl I p c) I := fun i hi => by rw [spl_at hp, if_neg oqz]
theorem out_sub {a b p m : Nat} {I J : List Nat} (h : Out a b I J) (hd : p + m ≤ a ∨ b ≤ p) : (I.drop p).take m = (J.drop p).take m := by
  apply List.ext_getElem?
  intro i
  rw [List.getElem?_take, List.getElem?_take]
  split
  · rw [List.getElem?_drop, List.getElem?_drop]; exact h _ oqz
  · rfl
theorem recsB_len {n at_ sz : Nat} {I : List Nat} (hI : I.length = n) : ∀ {l : List (Int × Int)}, l.all (mayX n at_ sz) = true → (recsB I l).length = needN l
  | [], _ => rfl
  | x :: l, hl => by
    rw [List.all_cons, Bool.and_eq_true] at hl
    obtain ⟨p, m, rfl, y1, y2, y3, y4⟩ := may_nat hl.1
    rw [recsB_cons, List.length_append, recsB_len hI hl.2, needN_cons, recS_len]
    simp only [Int.toNat_natCast]
    rw [show ((I.drop p).take m).length = m by rw [List.length_take, List.length_drop]; omega]
theorem put_loss {X : Nat → List Nat → Prop} {at_ sz : Nat} {I0 : List Nat} : ∀ {l : List (Int × Int)} {q r : Nat} {s : DevS}, WfD s → s.off = false → Poss X s → LogW (s.ls.length * 64) at_ sz → l.all (mayX (s.ls.length * 64) at_ sz) = true → at_ + 64 ≤ q → q + needN l ≤ at_ + sz → Room (r + needN l) s → Out (at_ + 64) (at_ + sz) (imgS s) I0 → I0.length = s.ls.length * 64 →
    (∀ I : List Nat, I.length = s.ls.length * 64 → Out (at_ + 64) (at_ + sz) I I0 → ∀ j, j < s.ls.length → X j (chunk j I)) →
    ∃ e s2, putF q l s = (e, s2) ∧ ((e = 0 ∧ s2.off = false ∧ WfD s2 ∧ Poss X s2 ∧ s2.ls.length = s.ls.length ∧ (∀ j : Nat, (j + 1) * 64 ≤ q ∨ q + needN l ≤ j * 64 → s2.ls[j]? = s.ls[j]?) ∧ Room r s2 ∧ imgS s2 = spl (imgS s) q (recsB I0 l)) ∨ (e = 5 ∧ Lost X s.ls.length s2))
  | [], q, r, s, hw, hO, hP, _, _, _, _, hr, _, _, _ => ⟨0, s, rfl, .inl ⟨rfl, hO, hw, hP, rfl, fun _ _ => rfl, fun l hl => by have := hr l hl; omega, (spl_nil _ _).symm⟩⟩
  | x :: l, q, r, s, hw, hO, hP, hlw, hl, hq1, hq2, hr, hout, hI0, hX => by
    rw [List.all_cons, Bool.and_eq_true] at hl
    obtain ⟨p, m, rfl, y1, y2, y3, y4⟩ := may_nat hl.1
    rw [needN_cons] at hq2 hr
    simp only [Int.toNat_natCast] at hq2 hr
    have htop := hlw.top
    have hil := imgS_len hw
    have hol : (((imgS s).drop p).take m).length = m := by rw [List.length_take, List.length_drop, hil]; omega
    have hrl : (recS p (((imgS s).drop p).take m)).length = 24 + up8 m := by rw [recS_len, hol]
    have hrb : ∀ b ∈ recS p (((imgS s).drop p).take m), b < 256 := recS_b img_sub
    obtain ⟨b, hb⟩ : ∃ b, recS p (((imgS s).drop p).take m) = b := ⟨_, rfl⟩
    rw [hb] at hrl hrb
    have hbo : recS p ((I0.drop p).take m) = b := by rw [← hb, out_sub hout oqz]
    have hXs : ∀ k j, 0 < k → k ≤ b.length → ((q + k) % 8 = 0 ∨ k = b.length) → j < s.ls.length → X j (chunk j (spl (imgS s) q (b.take k))) := fun k j k0 k1 _ hj => by
      have hkl : (b.take k).length = k := by rw [List.length_take]; omega
      exact hX _ (by rw [spl_length oqz, hil]) ((out_spl oqz hq1 oqz).trans hout) j hj
    obtain ⟨e, s1, g1, g2⟩ := storeF_loss (X := X) b.length (p := q) (r := r + needN l) (s := s) rfl hw hO hrb (fun l hl => by have := hr l hl; omega) oqz hP hXs
    have hst : sto (q : Nat) (recS p (((imgS s).drop p).take m)) s = (e, s1) := by
      rw [hb]; unfold sto; rw [hO, rdy_ok oqz oqz oqz, if_neg (by decide), Int.toNat_natCast]; exact g1
    rcases g2 with ⟨a1, ⟨a2, a3, a4, a5, a6⟩, a7, a8⟩ | ⟨a1, a2⟩
    · subst a1
      rw [putF_o hst]
      have hout1 : Out (at_ + 64) (at_ + sz) (imgS s1) I0 := by rw [a8]; exact (out_spl oqz hq1 oqz).trans hout
      obtain ⟨e, s2, k1, k2⟩ := put_loss (X := X) (I0 := I0) (l := l) (q := q + (24 + up8 m)) (r := r) (s := s1) a3 a2 a4 (by rw [a5]; exact hlw) (by rw [a5]; exact hl.2) oqz oqz a7 hout1 (by rw [a5]; exact hI0) (by rw [a5]; exact hX)
      refine ⟨e, s2, k1, ?_⟩
      rw [a5] at k2
      rcases k2 with ⟨b1, b2, b3, b4, b5, b6, b7, b8⟩ | k2
      · refine .inl ⟨b1, b2, b3, b4, b5, fun j hj => ?_, b7, ?_⟩
        · rw [needN_cons] at hj
          simp only [Int.toNat_natCast] at hj
          rw [b6 j oqz, a6 j oqz]
        · have hrn := recsB_len (I := I0) (n := s.ls.length * 64) (at_ := at_) (sz := sz) (l := l) hI0 hl.2
          rw [b8, a8, recsB_cons]
          simp only [Int.toNat_natCast]
          rw [hbo, show 24 + up8 m = b.length from hrl.symm, spl_spl oqz]
      · exact .inr k2
    · subst a1
      exact ⟨5, s1, putF_e hst (by decide), .inr ⟨rfl, a2⟩⟩
end Go.Vl

namespace Go.Vl
open Go Go.Proofs
attribute [local irreducible] crk crL crc Sl pt ro Dev imgS recS
theorem CloneBN_f {A : SP} {n c : Nat} :
    Fn Tryz.prog 96 #[.slice none n c] (A) (fun r B => r = .slice none 0 0 ∧ A = B) := by
  refine fn_enterW (args := [.slice none n c]) Tryz.func96 rfl Tryz.ntmps96 (by simp) ?_; refine sr ?_; refine tla ?_; refine nq ?_; refine tc_seq ?_; refine sr ?_; refine tlm ?_; refine tv (o_eqs Tryz.underlying22 rfl rfl) ?_; refine nq ?_; refine tc_cond rfl (fun h => ?_) (fun h => ?_)
  · try simp only [lv1, lv2, lv3, lv4, lv5, lv6, Bool.not_true, Bool.not_false] at h
    refine sr ?_; refine tla ?_; refine nq ?_; refine tc_ret ?_; refine q_then_r ?_; exact ⟨_, _, res1 rfl rfl, fun _ _ h => h, rfl, rfl⟩
  · (exfalso; first | (revert h; simp; done) | (simp at h; done) | (revert h; simp; omega) | (simp at h; omega) | omega)
theorem CloneBS_f {A : SP} {n c : Nat} {p : Addr} {xs : List Value} (hr : Rs A (some p) xs) (hl : xs.length = n * 1) (ho : xs.all oneC = true) (hs : n ≤ 5864062014800) :
    Fn Tryz.prog 96 #[.slice (some p) n c] (A) (fun r B => ∃ a2 c2, r = .slice a2 n c2 ∧ n ≤ c2 ∧ B = A * Sl 1 (.slice a2 n c2) n xs) := by
  refine fn_enterW (args := [.slice (some p) n c]) Tryz.func96 rfl Tryz.ntmps96 (by simp) ?_; refine sr ?_; refine tla ?_; refine nq ?_; refine tc_seq ?_; refine sr ?_; refine tlm ?_; refine tv (o_eqs Tryz.underlying22 rfl rfl) ?_; refine nq ?_; refine tc_cond rfl (fun h => ?_) (fun h => ?_)
  · exfalso; simp at h
  · try simp only [lv1, lv2, lv3, lv4, lv5, lv6, Bool.not_true, Bool.not_false] at h
    refine tc_skip ?_; refine q_then_n ?_; refine tc_seq ?_
    skip
    refine tc_reg ?_; refine tl_x rfl (o_buildSlice0 Tryz.underlying22 sz5 rfl) ?_; rintro _ _ ⟨b5, rfl, rfl⟩; refine tl_pre (A' := A * Sl 1 (.slice (some ⟨b5, 0, none⟩) 0 0) 0 []) (fun _ _ h => sl_new h (Nat.le_refl _) (by simp) (by simp)) ?_; refine tlm ?_; refine tl_x rfl (o_apR Tryz.underlying22 Tryz.underlying22 sz5 by5 z5 rfl (by decide) (by decide) rfl rfl ctqz (hr.left) hl ho oqz (List.nil_append _)) ?_; rintro _ _ ⟨a7, c7, rfl, hc7, rfl⟩; refine tla ?_; refine nq ?_; refine tc_ret ?_; exact ⟨.slice a7 (0 + n) c7, A * Sl 1 (.slice a7 (0 + n) c7) (0 + n) xs, res1 rfl rfl, fun _ _ h => h, a7, c7, by rw [Nat.zero_add], by rw [Nat.zero_add] at hc7; exact hc7, by rw [Nat.zero_add]⟩
theorem CloneB_c {A : SP} {a : Option Addr} {n c : Nat} {l : List Nat} (hr : Rs A a (bys l) := by repeat (first | assumption | with_reducible exact rs_sl | with_reducible exact rs_pt0 | exact rs_none | apply Rs.left)) (hm : l.length = n := by first | assumption | rfl) (hs : n ≤ 5864062014800 := by omega) :
    Fn Tryz.prog 96 #[.slice a n c] A (fun r B => ∃ a2 c2, r = .slice a2 n c2 ∧ n ≤ c2 ∧ B = A * Sl 1 (.slice a2 n c2) n (bys l)) := by
  have hl : (bys l).length = n * 1 := by rw [bys_length, hm, Nat.mul_one]
  cases a with
  | none =>
    intro g w hs2
    have hx : bys l = [] := by
      rcases hr.rd hs2 with h | ⟨b, o, e, _⟩
      · exact h
      · cases e
    have hn : n = 0 := by rw [hx] at hl; simp at hl; omega
    subst hn
    rw [hx]
    refine (CloneBN_f (n := 0) (c := c) g w hs2).mono ?_; rintro e w' ⟨v, B, rfl, ⟨rfl, rfl⟩, hB⟩; exact ⟨_, _, rfl, ⟨none, 0, rfl, Nat.le_refl _, rfl⟩, sl_nil hB⟩
  | some p => exact CloneBS_f hr hl (bys_all l) hs
theorem EqualB_c {A : SP} {a1 a2 : Option Addr} {c1 c2 n m : Nat} {xs ys : List Nat} (h1 : Rs A a1 (bys xs) := by repeat (first | assumption | with_reducible exact rs_sl | with_reducible exact rs_pt0 | exact rs_none | apply Rs.left)) (h2 : Rs A a2 (bys ys) := by repeat (first | assumption | with_reducible exact rs_sl | with_reducible exact rs_pt0 | exact rs_none | apply Rs.left)) (hx : xs.length = n := by first | assumption | rfl) (hy : ys.length = m := by first | assumption | rfl) (hn : n ≤ 4611686018427387904 := by omega) :
    Fn Tryz.prog 97 #[.slice a1 n c1, .slice a2 m c2] (A) (fun r B => r = .bool (decide (xs = ys)) ∧ A = B) := by
  refine fn_enterW (args := [.slice a1 n c1, .slice a2 m c2]) Tryz.func97 rfl Tryz.ntmps97 (by simp) ?_; refine sr ?_; refine tla ?_; refine nq ?_; refine tc_seq ?_; refine sr ?_; refine tlm ?_; refine tv (o_len Tryz.underlying22 rfl) ?_; refine tlm ?_; refine tv (o_len Tryz.underlying22 rfl) ?_; refine tv (o_nei rfl rfl) ?_; refine nq ?_; refine tc_cond rfl (fun h => ?_) (fun h => ?_)
  · try simp only [lv1, lv2, lv3, lv4, lv5, lv6, Bool.not_true, Bool.not_false] at h
    refine sr ?_; refine tla ?_; refine nq ?_; refine tc_ret ?_; refine q_then_r ?_
    have e : decide (xs = ys) = false := decide_eq_false fun e => by subst e; first | omega | (simp at h; omega)
    rw [e]
    exact ⟨.bool false, A, res1 rfl rfl, Dr.sat drqz, rfl, rfl⟩
  · obtain rfl : n = m := by first | omega | (simp at h; omega)
    refine tc_skip ?_; refine q_then_n ?_; refine tc_seq ?_; refine sr ?_; refine tlm ?_; refine tv (o_len Tryz.underlying22 rfl) ?_; refine tlm ?_; refine nq ?_; refine tc_block ?_; refine tc_loop (fun kk ρ BB => ∃ (i : Nat), (i ≤ n) ∧ (xs.take i = ys.take i) ∧ kk = n - i ∧ ρ 13 = .int .i64 (i : Nat) ∧ ρ 0 = .slice a1 n c1 ∧ ρ 1 = .slice a2 n c2 ∧ ρ 12 = .int .i64 (n : Nat) ∧ BB = A) (m := n - (0)) ?_ ?_
    · exact ⟨0, by omega, rfl, rfl, rfl, rfl, rfl, rfl, rfl⟩
    · intro k ρ B hI
      obtain ⟨i, hp0, hp1, hkk1, hE13, hE0, hE1, hE12, hBA⟩ := hI
      obtain rfl := hBA.symm
      refine tc_env (d := 13) hE13 ?_; refine tc_env (d := 0) hE0 ?_; refine tc_env (d := 1) hE1 ?_; refine tc_env (d := 12) hE12 ?_
      clear hE13 hE0 hE1 hE12
      refine sr ?_; refine tv (o_lss rfl rfl) ?_; refine nq ?_; refine tc_seq ?_; refine tc_cond rfl (fun h => ?_) (fun h => ?_)
      · have hi : i < xs.length := by first | omega | (simp at h; omega)
        have hi2 : i < ys.length := by omega
        refine tc_skip ?_; refine q_then_n ?_; refine tc_seq ?_; refine tc_block ?_; refine sr ?_; refine tlm ?_; refine tla ?_; refine nq ?_; refine tc_seq ?_; refine tc_regq mo kqz ?_; refine ql_v rfl (o_move (by conv => lhs; whnf)) ?_; refine ql_v rfl (o_move (by conv => lhs; whnf)) ?_; refine ql_v rfl (o_ixP1 Tryz.underlying22 sz5 rfl rfl oqz (nn_rs h1 (by rw [bys_length]; omega))) ?_; refine ql_v rfl (o_ldP p5 rfl h1 (bys_at hi)) ?_; refine ql_v rfl (o_move (by conv => lhs; whnf)) ?_; refine ql_v rfl (o_move (by conv => lhs; whnf)) ?_; refine ql_v rfl (o_ixP1 Tryz.underlying22 sz5 rfl rfl oqz (nn_rs h2 (by rw [bys_length]; omega))) ?_; refine ql_v rfl (o_ldP p5 rfl h2 (bys_at hi2)) ?_; refine ql_v rfl (o_nei rfl rfl) ?_; refine ql_nil ?_; refine q_then_n ?_; refine tc_cond rfl (fun h => ?_) (fun h => ?_)
        · have hne : xs[i] ≠ ys[i] := fun e => by rw [e] at h; simp at h
          refine sr ?_; refine tla ?_; refine nq ?_; refine tc_ret ?_; refine q_block_r (q_then_r (q_then_r (q_block_r (q_then_r ?_))))
          have e : decide (xs = ys) = false := decide_eq_false fun e => by subst e; exact hne rfl
          rw [e]
          exact ⟨.bool false, A, res1 rfl rfl, Dr.sat drqz, rfl, rfl⟩
        · have heq : ((xs[i] : Nat) : Int) = ((ys[i] : Nat) : Int) := by first | omega | (simpa using h)
          refine tc_skip ?_; refine q_block_n (q_then_n ?_); refine tc_reg ?_; refine tv adqz ?_; refine tlm ?_; refine nq ?_; exact ⟨_, by omega, i + 1, by omega, take_succ_eq hp1 oqz oqz oqz, rfl, rfl, rfl, rfl, rfl, rfl⟩
      · try simp only [lv1, lv2, lv3, lv4, lv5, lv6, Bool.not_true, Bool.not_false] at h
        refine tc_exit ?_; refine q_then_e (q_then_e (q_block_x (q_then_n ?_))); refine sr ?_; refine tla ?_; refine nq ?_; refine tc_ret ?_
        have e : decide (xs = ys) = true := decide_eq_true (take_all hp1 oqz oqz)
        rw [e]
        exact ⟨.bool true, A, res1 rfl rfl, Dr.sat drqz, rfl, rfl⟩
theorem field_c {A : SP} {a : Option Addr} {c m p w : Nat} {xs : List Nat} (q : Nat) (hq : q = p + w * 8 := by omega) (hr : Rs A a (bys xs) := by repeat (first | assumption | with_reducible exact rs_sl | with_reducible exact rs_pt0 | exact rs_none | apply Rs.left)) (hm : xs.length = m := by first | assumption | rfl) (hb : ∀ x ∈ xs, x < 256 := by assumption) (h8 : q + 8 ≤ m := by omega) (hl : m ≤ 1099511627776 := by omega) :
    Fn Tryz.prog 95 #[.slice a m c, .int .i64 (p : Nat), .int .i64 (w : Nat)] (A) (fun r B => r = .int .u64 ((nm ((xs.drop q).take 8) : Nat) : Int) ∧ A = B) := by
  refine fn_enterW (args := [.slice a m c, .int .i64 (p : Nat), .int .i64 (w : Nat)]) Tryz.func95 rfl Tryz.ntmps95 (by simp) ?_
  subst hq
  refine sr ?_; refine tla ?_; refine nq ?_; refine sr ?_; refine tlm ?_; refine tlm ?_; refine tlm ?_; refine tv (by first | exact o_mulI rfl rfl oqz | exact o_mul rfl rfl) ?_; refine tl_env (d := 13) (v := .int .i64 ((w * 8 : Nat) : Int)) (by first | rfl | (show Value.int .i64 (IntKind.i64.wrap ((w * 8 : Nat) : Int)) = _; rw [wr_i64 oqz])) ?_; refine tv adqz ?_; refine tl_env (d := 14) (v := .int .i64 ((p + w * 8 : Nat) : Int)) (by first | rfl | (show Value.int .i64 _ = _; congr 1; omega)) ?_; refine tl_c rfl (o_call bd20 rfl (Take64_c (p := p + w * 8) (xs := xs))) ?_; rintro _ _ ⟨rfl, rfl⟩; refine tlm ?_; refine tv (o_extract rfl rfl) ?_; refine tv (o_extract rfl rfl) ?_; refine tla ?_; refine tla ?_; refine nq ?_; refine sr ?_; refine tlm ?_; refine tla ?_; refine nq ?_; refine tc_ret ?_; exact ⟨_, A, res1 rfl rfl, Dr.sat drqz, rfl, rfl⟩
def rdW (o : Option ((Nat × List Nat) × Nat)) : Nat := match o with | none => 0 | some x => x.1.1
def rdO (o : Option ((Nat × List Nat) × Nat)) : List Nat := match o with | none => [] | some x => x.1.2
def rkT (o : Option ((Nat × List Nat) × Nat)) : Nat := match o with | none => 0 | some x => x.2
theorem read_short {n at_ sz p : Nat} {room : List Nat} (h : room.length < p + 24) : readS n at_ sz room p = none := by unfold readS; rw [if_pos h]
theorem read_may {n at_ sz p : Nat} {room : List Nat} (h : mayX n at_ sz ((nm ((room.drop p).take 8) : Nat), (nm ((room.drop (p + 8)).take 8) : Nat)) = false) : readS n at_ sz room p = none := by
  unfold readS
  by_cases h0 : room.length < p + 24
  · rw [if_pos h0]
  · rw [if_neg h0, if_pos h]
theorem read_need {n at_ sz p : Nat} {room : List Nat} (h : room.length < p + (24 + up8 (nm ((room.drop (p + 8)).take 8)))) : readS n at_ sz room p = none := by
  unfold readS
  by_cases h0 : room.length < p + 24
  · rw [if_pos h0]
  · rw [if_neg h0]
    by_cases h1 : mayX n at_ sz ((nm ((room.drop p).take 8) : Nat), (nm ((room.drop (p + 8)).take 8) : Nat)) = false
    · rw [if_pos h1]
    · rw [if_neg h1, if_pos h]
theorem read_bad {n at_ sz p w m : Nat} {room : List Nat} (hw : nm ((room.drop p).take 8) = w) (hm : nm ((room.drop (p + 8)).take 8) = m) (h : recS w ((room.drop (p + 24)).take m) ≠ (room.drop p).take (24 + up8 m)) : readS n at_ sz room p = none := by
  subst hw hm; unfold readS
  by_cases h0 : room.length < p + 24
  · rw [if_pos h0]
  · rw [if_neg h0]
    by_cases h1 : mayX n at_ sz ((nm ((room.drop p).take 8) : Nat), (nm ((room.drop (p + 8)).take 8) : Nat)) = false
    · rw [if_pos h1]
    · rw [if_neg h1]
      by_cases h2 : room.length < p + (24 + up8 (nm ((room.drop (p + 8)).take 8)))
      · rw [if_pos h2]
      · rw [if_neg h2, if_pos h]
theorem read_good {n at_ sz p w m : Nat} {room : List Nat} (hw : nm ((room.drop p).take 8) = w) (hm : nm ((room.drop (p + 8)).take 8) = m) (h1 : ¬ room.length < p + 24) (h2 : mayX n at_ sz ((w : Int), (m : Int)) = true) (h3 : ¬ room.length < p + (24 + up8 m)) (h : recS w ((room.drop (p + 24)).take m) = (room.drop p).take (24 + up8 m)) : readS n at_ sz room p = some ((w, (room.drop (p + 24)).take m), 24 + up8 m) := by
  subst hw hm; unfold readS; rw [if_neg h1, if_neg (by rw [h2]; decide), if_neg h3, if_neg (by rw [h]; simp)]
theorem may_big {n at_ sz w m : Nat} (hn : n ≤ 4194304) (h : 4194304 < w ∨ 4194304 < m) : mayX n at_ sz ((w : Int), (m : Int)) = false := decide_eq_false (by show ¬ ((1 : Int) ≤ (m : Int) ∧ (64 : Int) ≤ (w : Int) ∧ (w : Int) + (m : Int) ≤ (n : Int) ∧ _); omega)
theorem may_zero1 {n at_ sz w m : Nat} (h : m < 1) : mayX n at_ sz ((w : Int), (m : Int)) = false := decide_eq_false (by show ¬ ((1 : Int) ≤ (m : Int) ∧ (64 : Int) ≤ (w : Int) ∧ (w : Int) + (m : Int) ≤ (n : Int) ∧ _); omega)
theorem need_one {m : Nat} (h : 1 ≤ m) (h2 : m ≤ 4194304) : needS [(m : Int)] = (((24 + up8 m : Nat) : Int), 0) := by
  have := up8_le m
  unfold needS
  rw [needF_cons h]
  have e : rndS m = (((up8 m : Nat) : Int), 0) := by unfold rndS; have : pad8 m < 8 := (by unfold pad8; omega); rw [if_neg oqz]
  rw [e, if_neg (by simp only [ne_eq, not_true, false_or]; omega)]
  show ((0 : Int) + 24 + ((up8 m : Nat) : Int), (0 : Int)) = _
  congr 1
theorem need_zero : needS [((0 : Nat) : Int)] = (0, 2) := needF_bad (by decide)
set_option maxRecDepth 20000 in
set_option maxHeartbeats 2000000 in
theorem read_c {A R : SP} {C : SP → SP} {d : Nat} {s : DevS} (hc : Ct A (Dev d s) R C := by repeat (first | with_reducible exact ct_here | apply ct_left)) {bl at_ sz : Nat} (hl : Has R bl (cl (lcs11 d at_ sz) 94) := by (repeat (first | assumption | with_reducible exact has_here | with_reducible exact has_pt | apply has_left))) (hlw : LogW (s.ls.length * 64) at_ sz := by assumption) {a : Option Addr} {c rm p : Nat} {room : List Nat} (hr : Rs R a (bys room) := by repeat (first | assumption | with_reducible exact rs_sl | with_reducible exact rs_pt0 | exact rs_none | apply Rs.left)) (hm : room.length = rm := by first | assumption | rfl) (hmc : rm ≤ c := by omega) (hb : ∀ x ∈ room, x < 256 := by assumption) (hrm : rm ≤ 4194304 := by omega) (hp : p ≤ rm := by omega) :
    Fn Tryz.prog 67 #[.pointer (some ⟨bl, 0, none⟩), .slice a rm c, .int .i64 (p : Nat)] (A) (fun r B => ∃ a2 c2, r = .tuple #[.agg #[.int .i64 ((rdW (readS (s.ls.length * 64) at_ sz room p) : Nat) : Int), .slice a2 (rdO (readS (s.ls.length * 64) at_ sz room p)).length c2], .int .i64 ((rkT (readS (s.ls.length * 64) at_ sz room p) : Nat) : Int), .bool (readS (s.ls.length * 64) at_ sz room p).isSome] ∧ (rdO (readS (s.ls.length * 64) at_ sz room p)).length ≤ c2 ∧ B = C (Dev d s) * Sl 1 (.slice a2 (rdO (readS (s.ls.length * 64) at_ sz room p)).length c2) (rdO (readS (s.ls.length * 64) at_ sz room p)).length (bys (rdO (readS (s.ls.length * 64) at_ sz room p)))) := by
  refine fn_enterW (args := [.pointer (some ⟨bl, 0, none⟩), .slice a rm c, .int .i64 (p : Nat)]) Tryz.func67 rfl Tryz.ntmps67 (by simp) ?_; refine tc_have (fun _ _ h => ct_wf2 hc h) fun hw => ?_
  have htop := hw.top
  have hpos := hw.pos
  obtain ⟨rfl, hC⟩ := hc
  rw [hC]
  have hlw9 := hlw
  obtain ⟨w1, w2, w3, w4, w5⟩ := hlw9
  obtain ⟨w, hwq⟩ : ∃ w, (nm ((room.drop p).take 8)) = w := ⟨_, rfl⟩
  obtain ⟨m, hmq⟩ : ∃ m, (nm ((room.drop (p + 8)).take 8)) = m := ⟨_, rfl⟩
  have hw8 : w < 18446744073709551616 := hwq ▸ nm8_lt fun x hx => hb x (List.mem_of_mem_drop hx)
  have hm8 : m < 18446744073709551616 := hmq ▸ nm8_lt fun x hx => hb x (List.mem_of_mem_drop hx)
  refine sr ?_; refine tl_x rfl (o_alloc z92 rfl) ?_; rintro _ _ ⟨b6, rfl, rfl⟩; refine tla ?_; refine tla ?_; refine nq ?_; refine tc_seq ?_; refine sr ?_; refine tlm ?_; refine tv (o_len Tryz.underlying22 rfl) ?_; refine tlm ?_; refine tv (o_subI rfl rfl oqz) ?_; refine tv (o_lss rfl rfl) ?_; refine nq ?_; refine tc_cond rfl (fun h => ?_) (fun h => ?_)
  · have hsh : room.length < p + 24 := by first | omega | (simp at h; omega)
    refine sr ?_; refine tv (o_bS (l := [_, _]) pv_nil Tryz.underlying92 z92 (pl92 Tryz.underlying92) rfl) ?_; refine tl_u rfl (o_stUN rfl upqz sz92 rfl rfl rfl (by first | decide | simp | omega) rfl) ?_; refine tla ?_; refine tla ?_; refine nq ?_; refine tc_ret ?_; refine q_then_r ?_
    have e0 : (readS (s.ls.length * 64) at_ sz room p) = none := by exact read_short hsh
    rw [e0]
    exact ⟨.tuple #[.agg #[.int .i64 0, .slice none 0 0], .int .i64 0, .bool false], R * Dev d s * Sl 1 (.slice none 0 0) 0 [], resA3 rfl (rv_cell a92 sz92 rfl hsqz (by show 2 ≤ 2; decide) rfl) (rv_tmp rfl) (rv_tmp rfl), fun _ _ h => sl_nil (Dr.sat drqz _ _ h), none, 0, rfl, Nat.le_refl _, rfl⟩
  · have hsh : ¬ room.length < p + 24 := by first | omega | (simp at h; omega)
    refine tc_skip ?_; refine q_then_n ?_; refine sr ?_; refine tlm ?_; refine tlm ?_; refine tl_c rfl (o_call bd95 rfl (field_c (q := p) (w := 0) (xs := room))) ?_; rintro _ _ ⟨rfl, rfl⟩; refine tl_env (d := 23) (v := .int .u64 (w : Nat)) (by show Value.int .u64 (((nm ((room.drop p).take 8)) : Nat) : Int) = _; rw [hwq]) ?_; refine tlm ?_; refine tlm ?_; refine tl_c rfl (o_call bd95 rfl (field_c (q := p + 8) (w := 1) (xs := room))) ?_; rintro _ _ ⟨rfl, rfl⟩; refine tl_env (d := 26) (v := .int .u64 (m : Nat)) (by show Value.int .u64 (((nm ((room.drop (p + 8)).take 8)) : Nat) : Int) = _; rw [hmq]) ?_; refine tla ?_; refine tla ?_; refine nq ?_; refine tc_seq ?_; refine tc_seq ?_; refine tc_cut (fun ρ BB => ∃ (bb : Bool), (bb = decide (4194304 < w ∨ 4194304 < m)) ∧ ρ 32 = .bool bb ∧ ρ 0 = .pointer (some ⟨bl, 0, none⟩) ∧ ρ 1 = .slice a rm c ∧ ρ 2 = .int .i64 (p : Nat) ∧ ρ 6 = .pointer (some ⟨b6, 0, none⟩) ∧ ρ 9 = .int .u64 (w : Nat) ∧ ρ 10 = .int .u64 (m : Nat) ∧ BB = R * Dev d s * pt b6 (cl [.int .i64 0, .slice none 0 0] 92)) ?_ ?_
    · skip
      refine tc_reg ?_; refine tlm ?_; refine tv (o_gtr rfl rfl) ?_; refine tlm ?_; refine tl_bool (d := 29) rfl (fun h => ?_) (fun h => ?_)
      · have g29 : (4194304 < w) := by first | exact of_decide_eq_true h | (have h2 := h; simp at h2; omega) | simpa using h
        refine tk ?_; refine tk ?_; refine tv (o_pick_t rfl (by conv => lhs; whnf)) ?_; refine tl_nil ?_; exact ⟨_, by first | exact (decide_eq_true oqz).symm | exact (decide_eq_false oqz).symm | (rw [decide_eq_decide]; omega), rfl, rfl, rfl, rfl, rfl, rfl, rfl, rfl⟩
      · have g29 : ¬ (4194304 < w) := by first | exact of_decide_eq_false h | (have h2 := h; simp at h2; omega) | simpa using h
        refine tlm ?_; refine tv (o_gtr rfl rfl) ?_; refine tv (o_pick_f rfl (by conv => lhs; whnf)) ?_; refine tl_nil ?_; exact ⟨_, by first | exact (decide_eq_true oqz).symm | exact (decide_eq_false oqz).symm | (rw [decide_eq_decide]; omega), rfl, rfl, rfl, rfl, rfl, rfl, rfl, rfl⟩
    · intro ρ B hI
      obtain ⟨bb, hbb0, hE32, hE0, hE1, hE2, hE6, hE9, hE10, rfl⟩ := hI
      refine q_then_n ?_; refine tc_env (d := 32) hE32 ?_; refine tc_env (d := 0) hE0 ?_; refine tc_env (d := 1) hE1 ?_; refine tc_env (d := 2) hE2 ?_; refine tc_env (d := 6) hE6 ?_; refine tc_env (d := 9) hE9 ?_; refine tc_env (d := 10) hE10 ?_
      clear hE32 hE0 hE1 hE2 hE6 hE9 hE10
      refine tc_cond rfl (fun h => ?_) (fun h => ?_)
      · have hbig := of_decide_eq_true (show decide (4194304 < w ∨ 4194304 < m) = true by rw [← hbb0]; exact h)
        refine sr ?_; refine tv (o_bS (l := [_, _]) pv_nil Tryz.underlying92 z92 (pl92 Tryz.underlying92) rfl) ?_; refine tl_u rfl (o_stUN rfl upqz sz92 rfl rfl rfl (by first | decide | simp | omega) rfl) ?_; refine tla ?_; refine tla ?_; refine nq ?_; refine tc_ret ?_; refine q_then_r ?_
        have e0 : (readS (s.ls.length * 64) at_ sz room p) = none := by exact read_may (by rw [hwq, hmq]; exact may_big oqz hbig)
        rw [e0]
        exact ⟨.tuple #[.agg #[.int .i64 0, .slice none 0 0], .int .i64 0, .bool false], R * Dev d s * Sl 1 (.slice none 0 0) 0 [], resA3 rfl (rv_cell a92 sz92 rfl hsqz (by show 2 ≤ 2; decide) rfl) (rv_tmp rfl) (rv_tmp rfl), fun _ _ h => sl_nil (Dr.sat drqz _ _ h), none, 0, rfl, Nat.le_refl _, rfl⟩
      · have hbig := of_decide_eq_false (show decide (4194304 < w ∨ 4194304 < m) = false by rw [← hbb0]; exact h)
        refine tc_skip ?_; refine q_then_n ?_; refine sr ?_; refine tlm ?_; refine tv (o_conv Tryz.underlying66 Tryz.underlying3 rfl) ?_; refine tl_env (d := 35) (v := .int .i64 (w : Nat)) (by show Value.int .i64 (IntKind.i64.wrap _) = _; rw [wr_i64 oqz]) ?_; refine tlm ?_; refine tv (o_conv Tryz.underlying66 Tryz.underlying3 rfl) ?_; refine tl_env (d := 37) (v := .int .i64 (m : Nat)) (by show Value.int .i64 (IntKind.i64.wrap _) = _; rw [wr_i64 oqz]) ?_; refine tv (o_bS (l := [_, _]) (pv_cons (by conv => lhs; whnf) (pv_cons (by conv => lhs; whnf) pv_nil)) Tryz.underlying82 z82 (pl82 Tryz.underlying82) rfl) ?_; refine tl_x rfl (o_alloc z82 rfl) ?_; rintro _ _ ⟨b11, rfl, rfl⟩; refine tl_u rfl (o_stUN (l' := xcs ((w : Int), (m : Int))) rfl upqz sz82 rfl rfl rfl (by show 2 ≤ 2; decide) rfl) ?_; refine nq ?_; refine tc_seq ?_
        obtain ⟨nd, en, hnd⟩ : ∃ nd en, needS [(m : Int)] = (nd, en) := ⟨_, _, rfl⟩
        refine tc_reg ?_; refine tv (o_fieldAddr (o := 1) Tryz.underlying82 rfl rfl sz3 rfl) ?_; refine tv (by first | exact o_load p3 rfl hsqz rfl | exact o_loadC p3 rfl (by assumption)) ?_; refine tl_x rfl (o_buildSlice1 Tryz.underlying48 sz3 z3 (by conv => lhs; whnf) rfl) ?_; rintro _ _ ⟨b42, rfl, rfl⟩; refine tl_c rfl (o_call bd60 rfl (Need_c (xs := [(m : Int)]) (hr := show Rs _ _ [Value.int .i64 (m : Int)] from rs_pt rfl) (hx := by intro x hx; simp at hx; omega))) ?_; rintro _ _ ⟨rfl, rfl⟩; refine tlm ?_; refine tv (o_extract rfl rfl) ?_; refine tl_env (d := 44) (v := .int .i64 nd) (by show Value.int .i64 (needS [(m : Int)]).1 = _; rw [hnd]) ?_; refine tv (o_extract rfl rfl) ?_; refine tl_env (d := 45) (v := .int .i64 en) (by show Value.int .i64 (needS [(m : Int)]).2 = _; rw [hnd]) ?_; refine tla ?_; refine tla ?_; refine nq ?_; refine tc_seq ?_; refine tc_seq ?_; refine tc_cut (fun ρ BB => ∃ (bb : Bool), (bb = decide (mayX (s.ls.length * 64) at_ sz ((w : Int), (m : Int)) = false ∨ room.length < p + (24 + up8 m))) ∧ ρ 61 = .bool bb ∧ ρ 1 = .slice a rm c ∧ ρ 2 = .int .i64 (p : Nat) ∧ ρ 6 = .pointer (some ⟨b6, 0, none⟩) ∧ ρ 11 = .pointer (some ⟨b11, 0, none⟩) ∧ ρ 12 = .int .i64 nd ∧ Dr BB (R * Dev d s * pt b6 (cl [.int .i64 0, .slice none 0 0] 92) * pt b11 (cl (xcs ((w : Int), (m : Int))) 82))) ?_ ?_
        · skip
          refine tc_reg ?_; refine tlm ?_; refine tv (o_nei rfl rfl) ?_; refine tlm ?_; refine tl_bool (d := 48) rfl (fun h => ?_) (fun h => ?_)
          · have hen : en ≠ 0 := by first | exact of_decide_eq_true h | simpa using h
            have hm0 : m < 1 := by rcases Nat.lt_or_ge m 1 with h9 | h9; exact h9; rw [need_one h9 oqz] at hnd; simp at hnd; omega
            have hmy0 := may_zero1 (n := s.ls.length * 64) (at_ := at_) (sz := sz) (w := w) hm0
            refine tk ?_; refine tk ?_; refine tk ?_; refine tk ?_; refine tv (o_pick_t rfl (by conv => lhs; whnf)) ?_; refine tlm ?_; refine tk ?_; refine tk ?_; refine tk ?_; refine tk ?_; refine tk ?_; refine tk ?_; refine tv (o_pick_t rfl (by conv => lhs; whnf)) ?_; refine tl_nil ?_; exact ⟨_, by first | exact (decide_eq_true (.inl (by assumption))).symm | (rw [decide_eq_decide]; simp only [hmy1, Bool.true_eq_false, false_or]; omega), rfl, rfl, rfl, rfl, rfl, rfl, drqz⟩
          · have hen : en = 0 := by first | (have h9 := of_decide_eq_false h; omega) | (simp at h; omega)
            have hm1 : 1 ≤ m := by rcases Nat.lt_or_ge m 1 with h9 | h9; have h8 : m = 0 := (by omega); subst h8; rw [need_zero] at hnd; simp at hnd; omega; exact h9
            have hnd1 : nd = ((24 + up8 m : Nat) : Int) := by rw [need_one hm1 oqz] at hnd; simp only [Prod.mk.injEq] at hnd; exact hnd.1.symm
            have hxw : XW ((w : Int), (m : Int)) := ⟨by show -9223372036854775808 ≤ (w : Int) ∧ (w : Int) ≤ 9223372036854775807; omega, by show -9223372036854775808 ≤ (m : Int) ∧ (m : Int) ≤ 9223372036854775807; omega⟩
            refine tlm ?_; refine tv (o_loadN (vs := xcs ((w : Int), (m : Int))) a82 sz82 rfl hsqz (by show 2 ≤ 2; decide) rfl) ?_; refine tl_c rfl (o_call bd59 rfl (may11_c (s := s) (x := ((w : Int), (m : Int))) (hl := by repeat (first | assumption | apply has_left)))) ?_; rintro _ _ ⟨rfl, rfl⟩; refine tv (o_not rfl) ?_; refine tv (o_pick_f rfl (by conv => lhs; whnf)) ?_; refine tlm ?_; refine tl_bool (d := 54) rfl (fun h => ?_) (fun h => ?_)
            · have hmy : mayX (s.ls.length * 64) at_ sz ((w : Int), (m : Int)) = false := by first | assumption | simpa using h
              refine tk ?_; refine tk ?_; refine tk ?_; refine tk ?_; refine tk ?_; refine tk ?_; refine tv (o_pick_t rfl (by conv => lhs; whnf)) ?_; refine tl_nil ?_; exact ⟨_, by first | exact (decide_eq_true (.inl (by assumption))).symm | (rw [decide_eq_decide]; simp only [hmy1, Bool.true_eq_false, false_or]; omega), rfl, rfl, rfl, rfl, rfl, rfl, drqz⟩
            · have hmy1 : mayX (s.ls.length * 64) at_ sz ((w : Int), (m : Int)) = true := by simpa using h
              refine tlm ?_; refine tlm ?_; refine tv (o_len Tryz.underlying22 rfl) ?_; refine tlm ?_; refine tv (o_subI rfl rfl oqz) ?_; refine tv (o_gtr rfl rfl) ?_; refine tv (o_pick_f rfl (by conv => lhs; whnf)) ?_; refine tl_nil ?_; exact ⟨_, by first | exact (decide_eq_true (.inl (by assumption))).symm | (rw [decide_eq_decide]; simp only [hmy1, Bool.true_eq_false, false_or]; omega), rfl, rfl, rfl, rfl, rfl, rfl, drqz⟩
        · intro ρ B hI
          obtain ⟨bb, hbc0, hE61, hE1, hE2, hE6, hE11, hE12, hBA⟩ := hI
          refine q_then_n ?_; refine tc_pre hBA.sat ?_
          clear hBA
          refine tc_env (d := 61) hE61 ?_; refine tc_env (d := 1) hE1 ?_; refine tc_env (d := 2) hE2 ?_; refine tc_env (d := 6) hE6 ?_; refine tc_env (d := 11) hE11 ?_; refine tc_env (d := 12) hE12 ?_
          clear hE61 hE1 hE2 hE6 hE11 hE12
          refine tc_cond rfl (fun h => ?_) (fun h => ?_)
          · have hor := of_decide_eq_true (show decide (mayX (s.ls.length * 64) at_ sz ((w : Int), (m : Int)) = false ∨ room.length < p + (24 + up8 m)) = true by rw [← hbc0]; exact h)
            refine sr ?_; refine tv (o_bS (l := [_, _]) pv_nil Tryz.underlying92 z92 (pl92 Tryz.underlying92) rfl) ?_; refine tl_u rfl (o_stUN rfl upqz sz92 rfl rfl rfl (by first | decide | simp | omega) rfl) ?_; refine tla ?_; refine tla ?_; refine nq ?_; refine tc_ret ?_; refine q_then_r ?_
            have e0 : (readS (s.ls.length * 64) at_ sz room p) = none := by rcases hor with h9 | h9; exact read_may (by rw [hwq, hmq]; exact h9); exact read_need (by rw [hmq]; exact h9)
            rw [e0]
            exact ⟨.tuple #[.agg #[.int .i64 0, .slice none 0 0], .int .i64 0, .bool false], R * Dev d s * Sl 1 (.slice none 0 0) 0 [], resA3 rfl (rv_cell a92 sz92 rfl hsqz (by show 2 ≤ 2; decide) rfl) (rv_tmp rfl) (rv_tmp rfl), fun _ _ h => sl_nil (Dr.sat drqz _ _ h), none, 0, rfl, Nat.le_refl _, rfl⟩
          · have hor := of_decide_eq_false (show decide (mayX (s.ls.length * 64) at_ sz ((w : Int), (m : Int)) = false ∨ room.length < p + (24 + up8 m)) = false by rw [← hbc0]; exact h)
            have hmy : mayX (s.ls.length * 64) at_ sz ((w : Int), (m : Int)) = true := by rcases hb9 : mayX (s.ls.length * 64) at_ sz ((w : Int), (m : Int)) with _ | _; exact absurd (.inl hb9) hor; rfl
            have hnr : ¬ room.length < p + (24 + up8 m) := fun h9 => hor (.inr h9)
            have hm1 : 1 ≤ m := by rcases Nat.lt_or_ge m 1 with h9 | h9; rw [may_zero1 h9] at hmy; exact absurd hmy (by decide); exact h9
            have hup := up8_le m
            rw [need_one hm1 oqz] at hnd
            obtain ⟨rfl, rfl⟩ : ((24 + up8 m : Nat) : Int) = nd ∧ (0 : Int) = en := by simpa using hnd
            obtain ⟨old, hold⟩ : ∃ old, ((room.drop (p + 24)).take m) = old := ⟨_, rfl⟩
            have holl : old.length = m := by rw [← hold, List.length_take, List.length_drop]; omega
            have hob : ∀ x ∈ old, x < 256 := fun x hx => hb x (List.mem_of_mem_drop (List.mem_of_mem_take (hold.symm ▸ hx)))
            refine tc_skip ?_; refine q_then_n ?_; refine sr ?_; refine tlm ?_; refine tlm ?_; refine tv adqz ?_; refine tl_env (d := 65) (v := .int .i64 ((p + 24 : Nat) : Int)) (by first | rfl | (show Value.int .i64 _ = _; congr 1; omega)) ?_; refine tlm ?_; refine tv adqz ?_; refine tl_env (d := 67) (v := .int .i64 ((p + 24 : Nat) : Int)) (by first | rfl | (show Value.int .i64 _ = _; congr 1; omega)) ?_; refine tv (o_fieldAddr (o := 1) Tryz.underlying82 rfl rfl sz3 rfl) ?_; refine tv (by first | exact o_load p3 rfl hsqz rfl | exact o_loadC p3 rfl (by assumption)) ?_; refine tv adqz ?_; refine tl_env (d := 70) (v := .int .i64 ((p + 24 + m : Nat) : Int)) (by first | rfl | (show Value.int .i64 _ = _; congr 1; omega)) ?_; refine tv (o_slice (l := p + 24) (h := p + 24 + m) Tryz.underlying22 sz5 rfl (bnd_nat rfl) (bnd_nat rfl) oqz oqz) ?_; refine tl_env (d := 71) (v := .slice (cutAddr a c (p + 24) 1) m (c - (p + 24))) (by show Value.slice (cutAddr a c (p + 24) 1) (p + 24 + m - (p + 24)) (c - (p + 24)) = _; rw [show p + 24 + m - (p + 24) = m by omega]) ?_
            refine tl_c rfl (o_call bd96 rfl (CloneB_c (l := old) (n := m) (hr := by rw [← hold]; exact (rs_mid (l := p + 24) (m := m) hr oqz).left.left.left))) ?_; rintro _ _ ⟨a72, c72, rfl, hc72, rfl⟩; refine tla ?_; refine nq ?_; refine tc_seq ?_; refine tc_seq ?_; refine tc_regh (S := R * Dev d s * pt b6 (cl [.int .i64 0, .slice none 0 0] 92) * pt b11 (cl (xcs ((w : Int), (m : Int))) 82) * Sl 1 (.slice a72 m c72) m (bys old)) mo drqz ?_
            show TH _ _ _ _ _ 12 #[ff,ff,ff,ff,ff,ff,ff,ff,ff,ff,ff,ff] _ _
            refine th_take (i := 0) (listed' := #[tt,ff,ff,ff,ff,ff,ff,ff,ff,ff,ff,ff]) rfl kqz kqz kqz rfl rfl (o_fieldAddr (o := 0) Tryz.underlying82 rfl rfl sz3 rfl) ?_; refine th_take (i := 1) (listed' := #[tt,tt,ff,ff,ff,ff,ff,ff,ff,ff,ff,ff]) rfl kqz kqz kqz rfl rfl (by first | exact o_load p3 rfl hsqz rfl | exact o_loadC p3 rfl (by assumption)) ?_; refine th_take (i := 2) (listed' := #[tt,tt,tt,ff,ff,ff,ff,ff,ff,ff,ff,ff]) rfl kqz kqz kqz rfl rfl (o_move (by conv => lhs; whnf)) ?_; refine th_take (i := 4) (listed' := #[tt,tt,tt,ff,tt,ff,ff,ff,ff,ff,ff,ff]) rfl kqz kqz kqz rfl rfl (o_move (by conv => lhs; whnf)) ?_; refine th_take (i := 5) (listed' := #[tt,tt,tt,ff,tt,tt,ff,ff,ff,ff,ff,ff]) rfl kqz kqz kqz rfl rfl (o_move (by conv => lhs; whnf)) ?_; refine th_take (i := 6) (listed' := #[tt,tt,tt,ff,tt,tt,tt,ff,ff,ff,ff,ff]) rfl kqz kqz kqz rfl rfl (o_move (by conv => lhs; whnf)) ?_; refine th_take (i := 7) (listed' := #[tt,tt,tt,ff,tt,tt,tt,tt,ff,ff,ff,ff]) rfl kqz kqz kqz rfl rfl (o_move (by conv => lhs; whnf)) ?_; refine th_take (i := 8) (listed' := #[tt,tt,tt,ff,tt,tt,tt,tt,tt,ff,ff,ff]) rfl kqz kqz kqz rfl rfl adqz ?_
            refine th_env (d := 81) (v := .int .i64 ((p + (24 + up8 m) : Nat) : Int)) (by first | rfl | (show Value.int .i64 _ = _; congr 1; omega)) ?_; refine th_take (i := 9) (listed' := #[tt,tt,tt,ff,tt,tt,tt,tt,tt,tt,ff,ff]) rfl kqz kqz kqz rfl rfl (o_slice (l := p) (h := p + (24 + up8 m)) Tryz.underlying22 sz5 rfl (bnd_nat rfl) (bnd_nat rfl) oqz oqz) ?_; refine th_env (d := 82) (v := .slice (cutAddr a c p 1) (24 + up8 m) (c - p)) (by show Value.slice (cutAddr a c p 1) (p + (24 + up8 m) - p) (c - p) = _; rw [show p + (24 + up8 m) - p = 24 + up8 m by omega]) ?_; refine th_one (i := 3) kqz ?_; refine oh_c (i := 3) (listed' := #[tt,tt,tt,tt,tt,tt,tt,tt,tt,tt,ff,ff]) rfl rfl rfl (o_call bd61 rfl (record_c (p := w) (m := m) (xs := old) (hm := holl))) ?_; rintro _ _ ⟨a76, c76, rfl, hc76, rfl⟩; refine ⟨by repeat (first | with_reducible exact dr_refl | apply dr_keep | apply dr_drop), ?_⟩; refine th_one (i := 10) kqz ?_; refine oh_c (i := 10) (listed' := #[tt,tt,tt,tt,tt,tt,tt,tt,tt,tt,tt,ff]) rfl rfl rfl (o_call bd97 rfl (EqualB_c (xs := recS w old) (ys := (room.drop p).take (24 + up8 m)) (hx := by rw [recS_len, holl]) (hy := by rw [List.length_take, List.length_drop]; omega) (h2 := (rs_mid (l := p) (m := 24 + up8 m) hr oqz).left.left.left.left.left))) ?_; rintro _ _ ⟨rfl, rfl⟩; refine ⟨by repeat (first | with_reducible exact dr_refl | apply dr_keep | apply dr_drop), ?_⟩
            refine th_take (i := 11) (listed' := #[tt,tt,tt,tt,tt,tt,tt,tt,tt,tt,tt,tt]) rfl kqz kqz kqz rfl rfl (o_not rfl) ?_; refine th_done kqz ?_; refine q_then_n ?_; refine tc_cond rfl (fun h => ?_) (fun h => ?_)
            · have hne : recS w old ≠ (room.drop p).take (24 + up8 m) := fun e => by rw [e] at h; simp at h
              refine sr ?_; refine tv (o_bS (l := [_, _]) pv_nil Tryz.underlying92 z92 (pl92 Tryz.underlying92) rfl) ?_; refine tl_u rfl (o_stUN rfl upqz sz92 rfl rfl rfl (by first | decide | simp | omega) rfl) ?_; refine tla ?_; refine tla ?_; refine nq ?_; refine tc_ret ?_; refine q_then_r ?_
              have e0 : (readS (s.ls.length * 64) at_ sz room p) = none := by exact read_bad hwq hmq (by rw [hold]; exact hne)
              rw [e0]
              exact ⟨.tuple #[.agg #[.int .i64 0, .slice none 0 0], .int .i64 0, .bool false], R * Dev d s * Sl 1 (.slice none 0 0) 0 [], resA3 rfl (rv_cell a92 sz92 rfl hsqz (by show 2 ≤ 2; decide) rfl) (rv_tmp rfl) (rv_tmp rfl), fun _ _ h => sl_nil (Dr.sat drqz _ _ h), none, 0, rfl, Nat.le_refl _, rfl⟩
            · have heq : recS w old = (room.drop p).take (24 + up8 m) := by simpa using h
              refine tc_skip ?_; refine q_then_n ?_; refine sr ?_; refine tv (o_fieldAddr (o := 0) Tryz.underlying82 rfl rfl sz3 rfl) ?_; refine tv (by first | exact o_load p3 rfl hsqz rfl | exact o_loadC p3 rfl (by assumption)) ?_; refine tlm ?_; refine tv (o_bS (l := [_, _]) (pv_cons (by conv => lhs; whnf) (pv_cons (by conv => lhs; whnf) pv_nil)) Tryz.underlying92 z92 (pl92 Tryz.underlying92) rfl) ?_; refine tlm ?_; refine tl_u rfl (o_stUN (l' := [.int .i64 (w : Int), .slice a72 m c72]) rfl upqz sz92 rfl rfl rfl (by show 2 ≤ 2; decide) rfl) ?_; refine tla ?_; refine tla ?_; refine nq ?_; refine tc_ret ?_
              have e0 : (readS (s.ls.length * 64) at_ sz room p) = some ((w, old), 24 + up8 m) := by rw [← hold]; exact read_good hwq hmq hsh hmy hnr (by rw [hold]; exact heq)
              rw [e0]
              exact ⟨.tuple #[.agg #[.int .i64 (w : Int), .slice a72 m c72], .int .i64 ((24 + up8 m : Nat) : Int), .bool true], R * Dev d s * Sl 1 (.slice a72 m c72) m (bys old), resA3 rfl (rv_cell a92 sz92 rfl hsqz (by show 2 ≤ 2; decide) rfl) (rv_tmp rfl) (rv_tmp rfl), Dr.sat drqz, a72, c72, by show _ = Value.tuple #[.agg #[.int .i64 (w : Int), .slice a72 old.length c72], _, _]; rw [holl]; rfl, by show old.length ≤ c72; rw [holl]; exact hc72, by show _ = R * Dev d s * Sl 1 (.slice a72 old.length c72) old.length (bys old); rw [holl]⟩
end Go.Vl

namespace Go.Vl
open Go Go.Proofs
def kcl : List (Nat × List Nat) → List Value → List Value
  | x :: l, v :: vs => .int .i64 (x.1 : Nat) :: v :: kcl l vs
  | _, _ => []
theorem kcl_len : ∀ {l : List (Nat × List Nat)} {vs : List Value}, vs.length = l.length → (kcl l vs).length = l.length * 2
  | [], [], _ => rfl
  | x :: l, v :: vs, h => by
    show (kcl l vs).length + 1 + 1 = _
    rw [kcl_len (by simpa using h), List.length_cons]; omega
theorem kcl_snoc : ∀ {l : List (Nat × List Nat)} {vs : List Value} {x : Nat × List Nat} {v : Value}, vs.length = l.length → kcl (l ++ [x]) (vs ++ [v]) = kcl l vs ++ [.int .i64 (x.1 : Nat), v]
  | [], [], _, _, _ => rfl
  | y :: l, u :: vs, x, v, h => by
    show _ :: u :: kcl (l ++ [x]) (vs ++ [v]) = _
    rw [kcl_snoc (by simpa using h)]; rfl
theorem wr_u64 {j : Nat} (h : j < 18446744073709551616) : IntKind.u64.wrap (j : Int) = (j : Int) := by simp [IntKind.wrap, IntKind.bits, IntKind.signed]; omega
theorem rd_some {o : Option ((Nat × List Nat) × Nat)} (h : o.isSome = true) : o = some ((rdW o, rdO o), rkT o) := by
  cases o with
  | none => cases h
  | some x => rfl
/-- What is read behind what was read. -/
def cat (D : List (Nat × List Nat)) (x : List (Nat × List Nat) × Int) : List (Nat × List Nat) × Int := if x.2 ≠ 0 then ([], 110) else (D ++ x.1, 0)
theorem recs_none {n at_ sz k p : Nat} {room : List Nat} {D : List (Nat × List Nat)} (h : readS n at_ sz room p = none) (hk : 0 < k) : cat D (recsF n at_ sz room k p) = ([], 110) := by
  obtain ⟨k, rfl⟩ : ∃ j, k = j + 1 := ⟨k - 1, by omega⟩
  unfold recsF; rw [h]; rfl
theorem recs_some {n at_ sz k p : Nat} {room : List Nat} {D : List (Nat × List Nat)} {x : Nat × List Nat} {t : Nat} (h : readS n at_ sz room p = some (x, t)) (hk : 0 < k) : cat D (recsF n at_ sz room k p) = cat (D ++ [x]) (recsF n at_ sz room (k - 1) (p + t)) := by
  obtain ⟨k, rfl⟩ : ∃ j, k = j + 1 := ⟨k - 1, by omega⟩
  rw [show k + 1 - 1 = k by omega]
  have e : recsF n at_ sz room (k + 1) p = if (recsF n at_ sz room k (p + t)).2 ≠ 0 then ([], 110) else (x :: (recsF n at_ sz room k (p + t)).1, 0) := by
    rw [show recsF n at_ sz room (k + 1) p = match readS n at_ sz room p with
      | none => ([], 110)
      | some (x, t) => if (recsF n at_ sz room k (p + t)).2 ≠ 0 then ([], 110) else (x :: (recsF n at_ sz room k (p + t)).1, 0) from rfl, h]
  rw [e]
  unfold cat
  by_cases h2 : (recsF n at_ sz room k (p + t)).2 ≠ 0
  · rw [if_pos h2, if_pos h2, if_pos (by decide)]
  · rw [if_neg h2, if_neg h2, if_neg (by simp), List.append_assoc]; rfl
theorem recs_err {n at_ sz : Nat} {room : List Nat} : ∀ {k p : Nat}, (recsF n at_ sz room k p).2 ≠ 0 → recsF n at_ sz room k p = ([], 110)
  | 0, p, h => absurd rfl h
  | k + 1, p, h => by
    have e : recsF n at_ sz room (k + 1) p = match readS n at_ sz room p with
      | none => ([], 110)
      | some (x, t) => if (recsF n at_ sz room k (p + t)).2 ≠ 0 then ([], 110) else (x :: (recsF n at_ sz room k (p + t)).1, 0) := rfl
    rw [e] at h ⊢
    cases hr : readS n at_ sz room p with
    | none => rfl
    | some y =>
      rw [hr] at h
      simp only at h ⊢
      by_cases h2 : (recsF n at_ sz room k (p + y.2)).2 ≠ 0
      · rw [if_pos h2]
      · rw [if_neg h2] at h; exact absurd rfl h
theorem cat_nil {n at_ sz k p : Nat} {room : List Nat} : cat [] (recsF n at_ sz room k p) = recsF n at_ sz room k p := by
  unfold cat
  by_cases h : (recsF n at_ sz room k p).2 ≠ 0
  · rw [if_pos h, recs_err h]
  · rw [if_neg h]; exact Prod.ext rfl (by simp only; omega)
theorem read_room {n at_ sz p : Nat} {room : List Nat} {x : Nat × List Nat} {t : Nat} (h : readS n at_ sz room p = some (x, t)) : p + t ≤ room.length ∧ 24 ≤ t := by
  unfold readS at h
  split at h; cases h
  split at h; cases h
  split at h; cases h
  rename_i h3
  split at h; cases h
  simp only [Option.some.injEq, Prod.mk.injEq] at h
  omega
attribute [local irreducible] crk crL crc Sl pt ro Dev imgS recS readS recsF rdW rdO rkT Parts
set_option maxRecDepth 20000 in
set_option maxHeartbeats 2000000 in
theorem Records_c {A R : SP} {C : SP → SP} {d : Nat} {s : DevS} (hc : Ct A (Dev d s) R C := by repeat (first | with_reducible exact ct_here | apply ct_left)) {bl at_ sz : Nat} (hl : Has R bl (cl (lcs11 d at_ sz) 94) := by (repeat (first | assumption | with_reducible exact has_here | with_reducible exact has_pt | apply has_left))) (hlw : LogW (s.ls.length * 64) at_ sz := by assumption) :
    Fn Tryz.prog 25 #[.pointer (some ⟨bl, 0, none⟩)] (A) (fun r B => ∃ a2 c2 vs, r = .tuple #[.slice a2 (recordsS at_ sz s).1.length c2, .int .i64 (recordsS at_ sz s).2] ∧ (recordsS at_ sz s).1.length ≤ c2 ∧ vs.length = (recordsS at_ sz s).1.length ∧ B = C (Dev d s) * Parts vs ((recordsS at_ sz s).1.map (·.2)) * Sl 2 (.slice a2 (recordsS at_ sz s).1.length c2) (recordsS at_ sz s).1.length (kcl (recordsS at_ sz s).1 vs)) := by
  refine fn_enterW (args := [.pointer (some ⟨bl, 0, none⟩)]) Tryz.func25 rfl Tryz.ntmps25 (by simp) ?_; refine tc_have (fun _ _ h => ct_wf2 hc h) fun hw => ?_
  have htop := hw.top
  have hpos := hw.pos
  obtain ⟨rfl, hC⟩ := hc
  have hAC : ∀ g w, sat g w (R * Dev d s) → sat g w (C (Dev d s)) := fun g w h => by rw [hC]; exact h
  have hlw9 := hlw
  obtain ⟨w1, w2, w3, w4, w5⟩ := hlw9
  refine sr ?_; refine tla ?_; refine tla ?_; refine nq ?_; refine tc_seq ?_; refine sr ?_; refine tlm ?_; refine tl_c rfl (o_call bd57 rfl (ready11_c (s := s) (hl := hl))) ?_; rintro _ _ ⟨rfl, rfl⟩; refine tla ?_; refine nq ?_; refine sr ?_; refine tlm ?_; refine tv (o_nei rfl rfl) ?_; refine nq ?_; refine tc_cond rfl (fun h => ?_) (fun h => ?_)
  · try simp only [lv1, lv2, lv3, lv4, lv5, lv6, Bool.not_true, Bool.not_false] at h
    refine sr ?_; refine tlm ?_; refine tla ?_; refine tla ?_; refine nq ?_; refine tc_ret ?_; refine q_then_r ?_
    have ho := stE_off h
    have es : stE s = 5 := by unfold stE; rw [if_pos ho]
    rw [es]
    have e0 : recordsS at_ sz s = ([], 5) := by unfold recordsS; rw [if_pos ho]
    rw [e0]
    exact ⟨.tuple #[.slice none 0 0, .int .i64 (5)], C (Dev d s) * Parts [] [] * Sl 2 (.slice none 0 0) 0 [], res2 rfl rfl rfl, fun _ _ h => sl_nil (show sat _ _ (C (Dev d s) * Parts [] []) by rw [hC, show Parts [] [] = emp by unfold Parts; rfl, star_emp]; exact Dr.sat (A' := R * Dev d s) drqz _ _ h), none, 0, [], rfl, Nat.le_refl _, rfl, rfl⟩
  · have ho : s.off = false := stE_on (by simpa using h)
    have hw2 := word_in (p := at_) ho oqz oqz
    obtain ⟨v, hv⟩ : ∃ v, (wordP (at_ : Nat) s).1 = v := ⟨_, rfl⟩
    have hvl : v < 18446744073709551616 := by rw [← hv, hw2]; exact nm8_lt fun x hx => img_lt x (List.mem_of_mem_drop hx)
    obtain ⟨room, hroom⟩ : ∃ room, roomS at_ sz s = room := ⟨_, rfl⟩
    have hil := imgS_len hw
    have hrl : room.length = sz - 64 := by rw [← hroom]; unfold roomS; rw [List.length_take, List.length_drop, hil]; omega
    have hrb : ∀ x ∈ room, x < 256 := fun x hx => by rw [← hroom] at hx; exact img_sub x hx
    have hrec : recordsS at_ sz s = recsF (s.ls.length * 64) at_ sz room v 0 := by unfold recordsS; rw [if_neg (by rw [ho]; decide), hv, hroom]
    refine tc_skip ?_; refine q_then_n ?_; refine tc_seq ?_; refine tc_regq mo kqz ?_; refine ql_v rfl (o_move (by conv => lhs; whnf)) ?_; refine ql_v rfl (o_nilCheck rfl) ?_; refine ql_v rfl (o_fieldAddr (o := 0) Tryz.underlying94 rfl rfl sz28 rfl) ?_; refine ql_v rfl (o_load p28 rfl haqz rfl) ?_; refine ql_v rfl (o_move (by conv => lhs; whnf)) ?_; refine ql_v rfl (o_nilCheck rfl) ?_; refine ql_v rfl (o_fieldAddr (o := 1) Tryz.underlying94 rfl rfl sz3 rfl) ?_; refine ql_v rfl (o_load p3 rfl haqz rfl) ?_; refine ql_c rfl (fun w => exec_call bd58 rfl) (Word_c (s := s) (p := (at_ : Nat))) ?_; refine ql_v rfl (o_move (by conv => lhs; whnf)) ?_; refine ql_v rfl (o_extract rfl rfl) ?_; refine ql_env (d := 28) (v := .int .u64 (v : Nat)) (by show Value.int .u64 ((wordP (at_ : Nat) s).1 : Nat) = _; rw [hv]) ?_; refine ql_v rfl (o_extract rfl rfl) ?_; refine ql_env (d := 29) (v := .int .i64 0) (by show Value.int .i64 (wordP (at_ : Nat) s).2 = _; rw [hw2]) ?_; refine ql_v rfl (o_assign (by conv => lhs; whnf)) ?_; refine ql_v rfl (o_assign (by conv => lhs; whnf)) ?_; refine ql_nil ?_; refine q_then_n ?_; refine tc_seq ?_; refine sr ?_; refine tlm ?_; refine tv (o_nei rfl rfl) ?_; refine nq ?_; refine tc_cond rfl (fun h => ?_) (fun h => ?_)
    · exfalso; simp at h
    · try simp only [lv1, lv2, lv3, lv4, lv5, lv6, Bool.not_true, Bool.not_false] at h
      refine tc_skip ?_; refine q_then_n ?_; refine tc_seq ?_; refine sr ?_; refine tlm ?_; refine tv (o_eqi rfl rfl) ?_; refine nq ?_; refine tc_cond rfl (fun h => ?_) (fun h => ?_)
      · have hv0 : v = 0 := by first | (have h9 := of_decide_eq_true h; omega) | (simp at h; omega)
        refine sr ?_; refine tla ?_; refine tla ?_; refine nq ?_; refine tc_ret ?_; refine q_then_r ?_
        have e0 : recordsS at_ sz s = ([], 0) := by rw [hrec, hv0]; unfold recsF; rfl
        rw [e0]
        exact ⟨.tuple #[.slice none 0 0, .int .i64 (0)], C (Dev d s) * Parts [] [] * Sl 2 (.slice none 0 0) 0 [], res2 rfl rfl rfl, fun _ _ h => sl_nil (show sat _ _ (C (Dev d s) * Parts [] []) by rw [hC, show Parts [] [] = emp by unfold Parts; rfl, star_emp]; exact Dr.sat (A' := R * Dev d s) drqz _ _ h), none, 0, [], rfl, Nat.le_refl _, rfl, rfl⟩
      · have hv0 : v ≠ 0 := by first | (have h9 := of_decide_eq_false h; omega) | (simp at h; omega)
        refine tc_skip ?_; refine q_then_n ?_; refine tc_seq ?_; refine tc_regh (S := R) mo drqz ?_
        show TH _ _ _ _ _ 20 #[ff,ff,ff,ff,ff,ff,ff,ff,ff,ff,ff,ff,ff,ff,ff,ff,ff,ff,ff,ff] _ _
        refine th_take (i := 0) (listed' := #[tt,ff,ff,ff,ff,ff,ff,ff,ff,ff,ff,ff,ff,ff,ff,ff,ff,ff,ff,ff]) rfl kqz kqz kqz rfl rfl (o_move (by conv => lhs; whnf)) ?_; refine th_take (i := 1) (listed' := #[tt,tt,ff,ff,ff,ff,ff,ff,ff,ff,ff,ff,ff,ff,ff,ff,ff,ff,ff,ff]) rfl kqz kqz kqz rfl rfl (o_nilCheck rfl) ?_; refine th_take (i := 2) (listed' := #[tt,tt,tt,ff,ff,ff,ff,ff,ff,ff,ff,ff,ff,ff,ff,ff,ff,ff,ff,ff]) rfl kqz kqz kqz rfl rfl (o_fieldAddr (o := 0) Tryz.underlying94 rfl rfl sz28 rfl) ?_; refine th_take (i := 3) (listed' := #[tt,tt,tt,tt,ff,ff,ff,ff,ff,ff,ff,ff,ff,ff,ff,ff,ff,ff,ff,ff]) rfl kqz kqz kqz rfl rfl (o_load p28 rfl haqz rfl) ?_; refine th_take (i := 4) (listed' := #[tt,tt,tt,tt,tt,ff,ff,ff,ff,ff,ff,ff,ff,ff,ff,ff,ff,ff,ff,ff]) rfl kqz kqz kqz rfl rfl (o_move (by conv => lhs; whnf)) ?_; refine th_take (i := 5) (listed' := #[tt,tt,tt,tt,tt,tt,ff,ff,ff,ff,ff,ff,ff,ff,ff,ff,ff,ff,ff,ff]) rfl kqz kqz kqz rfl rfl (o_nilCheck rfl) ?_; refine th_take (i := 6) (listed' := #[tt,tt,tt,tt,tt,tt,tt,ff,ff,ff,ff,ff,ff,ff,ff,ff,ff,ff,ff,ff]) rfl kqz kqz kqz rfl rfl (o_fieldAddr (o := 1) Tryz.underlying94 rfl rfl sz3 rfl) ?_; refine th_take (i := 7) (listed' := #[tt,tt,tt,tt,tt,tt,tt,tt,ff,ff,ff,ff,ff,ff,ff,ff,ff,ff,ff,ff]) rfl kqz kqz kqz rfl rfl (o_load p3 rfl haqz rfl) ?_
        refine th_take (i := 8) (listed' := #[tt,tt,tt,tt,tt,tt,tt,tt,tt,ff,ff,ff,ff,ff,ff,ff,ff,ff,ff,ff]) rfl kqz kqz kqz rfl rfl adqz ?_; refine th_env (d := 44) (v := .int .i64 ((at_ + 64 : Nat) : Int)) (by first | rfl | (show Value.int .i64 _ = _; congr 1; omega)) ?_; refine th_take (i := 9) (listed' := #[tt,tt,tt,tt,tt,tt,tt,tt,tt,tt,ff,ff,ff,ff,ff,ff,ff,ff,ff,ff]) rfl kqz kqz kqz rfl rfl (o_move (by conv => lhs; whnf)) ?_; refine th_take (i := 10) (listed' := #[tt,tt,tt,tt,tt,tt,tt,tt,tt,tt,tt,ff,ff,ff,ff,ff,ff,ff,ff,ff]) rfl kqz kqz kqz rfl rfl (o_nilCheck rfl) ?_; refine th_take (i := 11) (listed' := #[tt,tt,tt,tt,tt,tt,tt,tt,tt,tt,tt,tt,ff,ff,ff,ff,ff,ff,ff,ff]) rfl kqz kqz kqz rfl rfl (o_fieldAddr (o := 2) Tryz.underlying94 rfl rfl sz3 rfl) ?_; refine th_take (i := 12) (listed' := #[tt,tt,tt,tt,tt,tt,tt,tt,tt,tt,tt,tt,tt,ff,ff,ff,ff,ff,ff,ff]) rfl kqz kqz kqz rfl rfl (o_load p3 rfl haqz rfl) ?_; refine th_take (i := 13) (listed' := #[tt,tt,tt,tt,tt,tt,tt,tt,tt,tt,tt,tt,tt,tt,ff,ff,ff,ff,ff,ff]) rfl kqz kqz kqz rfl rfl (o_subI rfl rfl oqz) ?_; refine th_env (d := 49) (v := .int .i64 ((sz - 64 : Nat) : Int)) (by show Value.int .i64 ((sz : Int) - 64) = _; congr 1; omega) ?_
        refine th_one (i := 14) kqz ?_; refine oh_c (i := 14) (listed' := #[tt,tt,tt,tt,tt,tt,tt,tt,tt,tt,tt,tt,tt,tt,tt,ff,ff,ff,ff,ff]) rfl rfl rfl (o_call bd27 rfl (Load_c (s := s) (p := at_ + 64) (m := sz - 64))) ?_; rintro _ _ ⟨a50, c50, rfl, hc50, rfl⟩; refine ⟨by repeat (first | with_reducible exact dr_refl | apply dr_keep | apply dr_drop), ?_⟩; refine th_take (i := 15) (listed' := #[tt,tt,tt,tt,tt,tt,tt,tt,tt,tt,tt,tt,tt,tt,tt,tt,ff,ff,ff,ff]) rfl kqz kqz kqz rfl rfl (o_move (by conv => lhs; whnf)) ?_; refine th_take (i := 16) (listed' := #[tt,tt,tt,tt,tt,tt,tt,tt,tt,tt,tt,tt,tt,tt,tt,tt,tt,ff,ff,ff]) rfl kqz kqz kqz rfl rfl (o_extract rfl rfl) ?_; refine th_take (i := 17) (listed' := #[tt,tt,tt,tt,tt,tt,tt,tt,tt,tt,tt,tt,tt,tt,tt,tt,tt,tt,ff,ff]) rfl kqz kqz kqz rfl rfl (o_extract rfl rfl) ?_; refine th_take (i := 18) (listed' := #[tt,tt,tt,tt,tt,tt,tt,tt,tt,tt,tt,tt,tt,tt,tt,tt,tt,tt,tt,ff]) rfl kqz kqz kqz rfl rfl (o_assign (by conv => lhs; whnf)) ?_; refine th_take (i := 19) (listed' := #[tt,tt,tt,tt,tt,tt,tt,tt,tt,tt,tt,tt,tt,tt,tt,tt,tt,tt,tt,tt]) rfl kqz kqz kqz rfl rfl (o_assign (by conv => lhs; whnf)) ?_; refine th_done kqz ?_; refine q_then_n ?_; refine tc_seq ?_; refine sr ?_
        refine tlm ?_; refine tv (o_nei rfl rfl) ?_; refine nq ?_; refine tc_cond rfl (fun h => ?_) (fun h => ?_)
        · exfalso; simp at h
        · try simp only [lv1, lv2, lv3, lv4, lv5, lv6, Bool.not_true, Bool.not_false] at h
          refine tc_skip ?_; refine q_then_n ?_; refine sr ?_; refine tla ?_; refine nq ?_; refine sr ?_; refine tla ?_; refine nq ?_; refine tc_seq ?_; refine tc_block ?_; refine tc_pre (A' := R * Dev d s * Sl 1 (.slice a50 (sz - 64) c50) (sz - 64) (bys room) * Parts [] [] * Sl 2 (.slice none 0 0) 0 []) (fun _ _ h => sl_nil (show sat _ _ (R * Dev d s * Sl 1 (.slice a50 (sz - 64) c50) (sz - 64) (bys room) * Parts [] []) by rw [show Parts [] [] = emp by unfold Parts; rfl, star_emp]; rw [← hroom]; exact h)) ?_; refine tc_loop (fun kk ρ BB => ∃ (j : Nat) (p : Nat) (n : Nat) (D : List (Nat × List Nat)) (vs : List Value) (a8 : Option Addr) (c8 : Nat), (cat D (recsF (s.ls.length * 64) at_ sz room j p) = recordsS at_ sz s) ∧ (p ≤ sz - 64) ∧ (D.length = n) ∧ (vs.length = n) ∧ (n ≤ c8) ∧ (j < 18446744073709551616) ∧ (24 * n ≤ p) ∧ kk = j ∧ ρ 5 = .int .u64 (j : Nat) ∧ ρ 8 = .slice a8 n c8 ∧ ρ 9 = .int .i64 (p : Nat) ∧ ρ 0 = .pointer (some ⟨bl, 0, none⟩) ∧ ρ 7 = .slice a50 (sz - 64) c50 ∧ Dr BB (R * Dev d s * Sl 1 (.slice a50 (sz - 64) c50) (sz - 64) (bys room) * Parts vs (D.map (·.2)) * Sl 2 (.slice a8 n c8) n (kcl D vs))) (m := (v)) ?_ ?_
          · exact ⟨v, 0, 0, [], [], none, 0, by rw [hrec, cat_nil], by omega, rfl, rfl, by omega, hvl, by omega, rfl, rfl, rfl, rfl, rfl, rfl, drqz⟩
          · intro k ρ B hI
            obtain ⟨j, p, n, D, vs, a8, c8, hp0, hp1, hp2, hp3, hp4, hp5, hp6, hkk1, hE5, hE8, hE9, hE0, hE7, hBA⟩ := hI
            refine tc_pre hBA.sat ?_
            clear hBA
            refine tc_env (d := 5) hE5 ?_; refine tc_env (d := 8) hE8 ?_; refine tc_env (d := 9) hE9 ?_; refine tc_env (d := 0) hE0 ?_; refine tc_env (d := 7) hE7 ?_
            clear hE5 hE8 hE9 hE0 hE7
            refine tc_seq ?_; refine sr ?_; refine tlm ?_; refine tv (o_gtr rfl rfl) ?_; refine nq ?_; refine tc_cond rfl (fun h => ?_) (fun h => ?_)
            · have hj : 0 < j := by first | omega | (simp at h; omega)
              refine tc_skip ?_; refine q_then_n ?_; refine tc_seq ?_; refine tc_block ?_; refine sr ?_; refine tlm ?_; refine tlm ?_; refine tlm ?_; refine tl_c rfl (o_call bd67 rfl (read_c (s := s) (p := p) (room := room))) ?_; rintro _ _ ⟨a64, c64, rfl, hc64, rfl⟩; refine tlm ?_; refine tv (o_extract rfl rfl) ?_; refine tv (o_extract rfl rfl) ?_; refine tv (o_extract rfl rfl) ?_; refine tl_x rfl (o_alloc z92 rfl) ?_; rintro _ _ ⟨b10, rfl, rfl⟩; refine tl_u rfl (o_stUN (l' := [.int .i64 ((rdW (readS (s.ls.length * 64) at_ sz room p) : Nat) : Int), (.slice a64 (rdO (readS (s.ls.length * 64) at_ sz room p)).length c64)]) rfl upqz sz92 rfl rfl rfl (by show 2 ≤ 2; decide) rfl) ?_; refine tla ?_; refine tla ?_; refine nq ?_; refine tc_seq ?_; refine sr ?_; refine tlm ?_; refine tv (o_not rfl) ?_; refine nq ?_; refine tc_cond rfl (fun h => ?_) (fun h => ?_)
              · have hrd : (readS (s.ls.length * 64) at_ sz room p) = none := by rcases hq9 : (readS (s.ls.length * 64) at_ sz room p) with _ | x; rfl; rw [hq9] at h; simp at h
                refine sr ?_; refine tla ?_; refine tla ?_; refine nq ?_; refine tc_ret ?_; refine q_then_r (q_block_r (q_then_r (q_then_r (q_block_r (q_then_r ?_)))))
                have e0 : recordsS at_ sz s = ([], 110) := by rw [← hp0, recs_none hrd hj]
                rw [e0]
                exact ⟨.tuple #[.slice none 0 0, .int .i64 (110)], C (Dev d s) * Parts [] [] * Sl 2 (.slice none 0 0) 0 [], res2 rfl rfl rfl, fun _ _ h => sl_nil (show sat _ _ (C (Dev d s) * Parts [] []) by rw [hC, show Parts [] [] = emp by unfold Parts; rfl, star_emp]; exact Dr.sat (A' := R * Dev d s) drqz _ _ h), none, 0, [], rfl, Nat.le_refl _, rfl, rfl⟩
              · have hrd := rd_some (o := (readS (s.ls.length * 64) at_ sz room p)) (by simpa using h)
                have hrm := read_room hrd
                refine tc_skip ?_; refine q_then_n ?_; refine sr ?_; refine tlm ?_; refine tv (o_loadN (vs := [.int .i64 ((rdW (readS (s.ls.length * 64) at_ sz room p) : Nat) : Int), (.slice a64 (rdO (readS (s.ls.length * 64) at_ sz room p)).length c64)]) a92 sz92 rfl hsqz (by show 2 ≤ 2; decide) rfl) ?_; refine tl_x rfl (o_buildSliceK (k := 2) (l := [.int .i64 ((rdW (readS (s.ls.length * 64) at_ sz room p) : Nat) : Int), (.slice a64 (rdO (readS (s.ls.length * 64) at_ sz room p)).length c64)]) Tryz.underlying84 sz92 z92 rfl rfl (by decide)) ?_; rintro _ _ ⟨b72, rfl, rfl⟩; refine tl_x rfl (o_apB Tryz.underlying84 Tryz.underlying84 sz92 by92 z92 rfl (by decide) (by decide) rfl rfl rfl ctqz rfl rfl oqz (show _ = kcl (D ++ [(rdW (readS (s.ls.length * 64) at_ sz room p), rdO (readS (s.ls.length * 64) at_ sz room p))]) (vs ++ [(.slice a64 (rdO (readS (s.ls.length * 64) at_ sz room p)).length c64)]) by rw [kcl_snoc oqz])) ?_; rintro _ _ ⟨a73, c73, rfl, hc73, rfl⟩
                have hps : Parts (vs ++ [(.slice a64 (rdO (readS (s.ls.length * 64) at_ sz room p)).length c64)]) ((D ++ [(rdW (readS (s.ls.length * 64) at_ sz room p), rdO (readS (s.ls.length * 64) at_ sz room p))]).map (·.2)) = Parts vs (D.map (·.2)) * Sl 1 (.slice a64 (rdO (readS (s.ls.length * 64) at_ sz room p)).length c64) (rdO (readS (s.ls.length * 64) at_ sz room p)).length (bys (rdO (readS (s.ls.length * 64) at_ sz room p))) := by rw [List.map_append]; exact parts_snoc (by rw [List.length_map]; omega)
                refine tl_eq (show _ = R * Dev d s * Sl 1 (.slice a50 (sz - 64) c50) (sz - 64) (bys room) * Parts (vs ++ [(.slice a64 (rdO (readS (s.ls.length * 64) at_ sz room p)).length c64)]) ((D ++ [(rdW (readS (s.ls.length * 64) at_ sz room p), rdO (readS (s.ls.length * 64) at_ sz room p))]).map (·.2)) * Sl 2 (.slice a73 (n + 1) c73) (n + 1) (kcl (D ++ [(rdW (readS (s.ls.length * 64) at_ sz room p), rdO (readS (s.ls.length * 64) at_ sz room p))]) (vs ++ [(.slice a64 (rdO (readS (s.ls.length * 64) at_ sz room p)).length c64)])) * pt b10 (cl ([.int .i64 ((rdW (readS (s.ls.length * 64) at_ sz room p) : Nat) : Int), (.slice a64 (rdO (readS (s.ls.length * 64) at_ sz room p)).length c64)] : List Value) 92) by rw [hps]; ac_rfl) ?_; refine tla ?_; refine nq ?_; refine tc_reg ?_; refine tlm ?_; refine tlm ?_; refine tv adqz ?_; refine tl_env (d := 76) (v := .int .i64 ((p + rkT (readS (s.ls.length * 64) at_ sz room p) : Nat) : Int)) (by first | rfl | (show Value.int .i64 _ = _; congr 1; omega)) ?_; refine tla ?_; refine tl_nil ?_; refine q_block_n (q_then_n ?_); refine tc_reg ?_; refine tlm ?_; refine tv (o_sub rfl rfl) ?_; refine tl_env (d := 59) (v := .int .u64 ((j - 1 : Nat) : Int)) (by show Value.int .u64 (IntKind.u64.wrap ((j : Int) - 1)) = _; rw [show (j : Int) - 1 = ((j - 1 : Nat) : Int) by omega, wr_u64 oqz]) ?_
                refine tla ?_; refine nq ?_; exact ⟨_, by omega, j - 1, _, n + 1, D ++ [(rdW (readS (s.ls.length * 64) at_ sz room p), rdO (readS (s.ls.length * 64) at_ sz room p))], vs ++ [(.slice a64 (rdO (readS (s.ls.length * 64) at_ sz room p)).length c64)], a73, c73, by rw [← recs_some hrd hj]; exact hp0, by omega, by rw [List.length_append, hp2]; rfl, by rw [List.length_append, hp3]; rfl, hc73, by omega, by omega, rfl, rfl, rfl, rfl, rfl, rfl, drqz⟩
            · obtain rfl : j = 0 := by first | omega | (simp at h; omega)
              refine tc_exit ?_; refine q_then_e (q_then_e (q_block_x (q_then_n ?_))); refine sr ?_; refine tlm ?_; refine tla ?_; refine tla ?_; refine nq ?_; refine tc_ret ?_
              have e0 : recordsS at_ sz s = (D, 0) := by rw [← hp0]; unfold recsF cat; rw [if_neg (by simp), List.append_nil]
              rw [e0]
              exact ⟨.tuple #[.slice a8 n c8, .int .i64 0], R * Dev d s * Parts vs (D.map (·.2)) * Sl 2 (.slice a8 n c8) n (kcl D vs), res2 rfl rfl rfl, Dr.sat drqz, a8, c8, vs, by rw [hp2], by rw [hp2]; exact hp4, by rw [hp3]; exact hp2.symm, by rw [hC]; simp only []; rw [hp2]⟩
end Go.Vl

namespace Go.Vl
open Go Go.Proofs
namespace Rg
section
variable {P : Program} {n : Nat} {ops : Array Oper} {A : SP} {ρ : Env} {o : Oper} {rest : List Oper} {Q : Post}
def QL (P : Program) (n : Nat) (ops : Array Oper) (A : SP) (K : Env → Prop) (l : List Oper) (ρ : Env) : Prop :=
  ∀ g a, Agr n ρ a → wpQuietIn (Fc ⟨none⟩) 0 P ops (fun w => sat g w A) (fun a' => ∃ ρ', Agr n ρ' a' ∧ K ρ') l a
theorem ql_nil {K : Env → Prop} (h : K ρ) : QL P n ops A K [] ρ := fun g a ha => wpQuietIn_nil ⟨ρ, ha, h⟩
theorem ql_skip {K : Env → Prop} (hw : wantE n ops ρ o = false) (k : QL P n ops A K rest (put n ρ o.dst undef)) : QL P n ops A K (o :: rest) ρ := fun g a ha => by
  unfold wpQuietIn
  rw [want_eq ha, hw]
  exact ⟨fun _ _ _ _ => trivial, k g _ (ha.put _ _)⟩
theorem ql_v {K : Env → Prop} {v : Value} (hw : wantE n ops ρ o = true) (h : OpV P n ρ A o v) (k : QL P n ops A K rest (put n ρ o.dst v)) : QL P n ops A K (o :: rest) ρ := fun g a ha => by
  unfold wpQuietIn
  rw [want_eq ha, hw, if_pos rfl]
  refine ⟨fun _ _ _ _ => trivial, v, fun w hs => ?_, k g _ (ha.put _ _)⟩
  unfold Oper.quietAtIn
  rw [ha.eval, h g w hs]
  exact ⟨rfl, rfl⟩
theorem ql_env {K : Env → Prop} {l : List Oper} {d : Nat} {v : Value} (h : ρ d = v) (k : QL P n ops A K l (upd ρ d v)) : QL P n ops A K l ρ := by
  rw [← env_set h] at k; exact k
theorem ql_bool {K : Env → Prop} {l : List Oper} {d : Nat} {b : Bool} (hv : ρ d = .bool b) (ht : b = true → QL P n ops A K l (upd ρ d (.bool true))) (hf : b = false → QL P n ops A K l (upd ρ d (.bool false))) : QL P n ops A K l ρ := by
  cases b with
  | true => exact ql_env hv (ht rfl)
  | false => exact ql_env hv (hf rfl)
theorem tc_regq {id : Nat} {l : List Oper} (hm : P.follows .mixedOrders = true) (hB : Region.lexB .any l.toArray = true) (h : QL P n l.toArray A (fun ρ' => Q .normal ρ' A) l ρ) :
    @TC ⟨none⟩ P n (.region id l.toArray true) Q ρ A := fun g a w ha hs => by
  refine wpIn_region_quiet (C := fun w => sat g w A) rfl hm hB (hs.draw rfl rfl rfl rfl) ?_
  have hh := h g a ha
  have he : l.toArray.toList = l := by simp
  rw [he]
  have mono : ∀ (l' : List Oper) (a : Act), wpQuietIn (Fc ⟨none⟩) 0 P l.toArray (fun w => sat g w A) (fun a' => ∃ ρ', Agr n ρ' a' ∧ Q .normal ρ' A) l' a →
      wpQuietIn (Fc ⟨none⟩) 0 P l.toArray (fun w => sat g w A) (fun a' => ∀ w', sat g w' A → lift g n Q .normal a' w') l' a := by
    intro l'
    induction l' with
    | nil => intro a ⟨ρ', h1, h2⟩ w' hw'; exact ⟨rfl, ρ', A, h1, hw', h2⟩
    | cons o l' ih =>
      intro a h
      unfold wpQuietIn at h ⊢
      refine ⟨h.1, ?_⟩
      have h2 := h.2
      split
      · rename_i hw
        rw [if_pos hw] at h2
        exact Oper.quietIn_mono (fun a => ih a) h2
      · rename_i hw
        rw [if_neg hw] at h2
        exact ih _ h2
  exact mono l a hh
end
end Rg
end Go.Vl

namespace Go.Vl
open Go Go.Proofs
namespace Rg
section
variable {P : Program} {m : Nat} {ops : Array Oper} {μ : Rm}
/-- No operation of a row is a defer: by reckoning. -/
def nodB (l : List Oper) : Bool := l.all fun o => match o.op with | .defer _ => false | _ => true
theorem nod_of {l : List Oper} (h : nodB l = true) : ∀ (i : Nat) (o : Oper), l.toArray[i]? = some o → ∀ c, o.op ≠ .defer c := fun i o hi c e => by
  have h1 := List.all_eq_true.1 h o (List.mem_of_getElem? (by simpa using hi))
  simp [e] at h1
theorem upon_tr {o : Oper} {a : Act} {K : Act → World → Prop} {Q : Exit → Act → World → Prop} {r : Result Next} : Oper.uponIn (Fc ⟨none⟩) m P o a K Q r = Oper.uponIn (Fc μ) m P o a K Q r := by
  cases r with
  | ok x w => cases x <;> rfl
  | halt x w => cases x <;> rfl
theorem op_tr {i : Nat} {K : Act → World → Prop} {Q : Exit → Act → World → Prop} {a : Act} {w : World} (hnd : ∀ (i : Nat) (o : Oper), ops[i]? = some o → ∀ c, o.op ≠ .defer c) (h : wpOpIn (Fc ⟨none⟩) m P ops Q i K a w) : wpOpIn (Fc μ) m P ops Q i K a w := by
  unfold wpOpIn at *
  cases hi : ops[i]? with
  | none => simpa [hi] using h
  | some o =>
    simp only [hi] at h ⊢
    split
    · rename_i hw
      simp only [hw, if_true] at h
      unfold Oper.wpIn at *
      rw [Oper.semAt_eq _ _ _ (hnd i o hi)] at h ⊢
      rw [← upon_tr]
      exact h
    · rename_i hw
      simp only [hw] at h
      exact h
theorem any_tr {Q : Exit → Act → World → Prop} (hnd : ∀ (i : Nat) (o : Oper), ops[i]? = some o → ∀ c, o.op ≠ .defer c) : ∀ (fuel : Nat) (listed : Array Bool) (a : Act) (w : World), wpAnyIn (Fc ⟨none⟩) m P .any ops Q fuel listed a w → wpAnyIn (Fc μ) m P .any ops Q fuel listed a w
  | 0, _, _, _, h => h
  | fuel + 1, _, _, _, h => ⟨h.1, fun i hi => op_tr hnd (wpOpIn_mono (fun a w => any_tr hnd fuel _ a w) (h.2 i hi))⟩
/-- What is left of a region in a round: by what is left of it in a function. -/
theorem tc_regt {n : Nat} {Q : Post} {ρ : Env} {A : SP} {id : Nat} {l : List Oper} (hm : P.follows .mixedOrders = true) (hd : nodB l = true)
    (h : ∀ g a w, Agr n ρ a → sat g w A → wpAnyIn (Fc ⟨none⟩) 0 P .any l.toArray (lift g n Q) l.length (Array.replicate l.length false) a w) : @TC μ P n (.region id l.toArray true) Q ρ A := fun g a w ha hs =>
  wpIn_region_any hm (by
    have h1 := h g a { w with drawn := w.drawn + 1 } ha (hs.draw rfl rfl rfl rfl)
    have h2 := any_tr (μ := μ) (nod_of hd) _ _ _ _ h1
    simpa using h2)
end
end Rg
end Go.Vl

namespace Go.Vl
open Go Go.Proofs
namespace Rg
section
variable {P : Program} {n : Nat} {ops : Array Oper} {A S : SP} {ρ : Env} {o : Oper} {Q : Post}
def notCall (o : Oper) : Bool := match o.op with | .call _ => false | _ => true
theorem about_none {o : Oper} (h : notCall o = true) (w : World) (e : Operand → Value) : o.about P w e = none := by
  unfold notCall at h
  unfold Oper.about
  cases ho : o.op <;> first | rfl | (simp [ho] at h)
def TH (P : Program) (n : Nat) (ops : Array Oper) (Q : Post) (S : SP) (fuel : Nat) (listed : Array Bool) (ρ : Env) (A : SP) : Prop :=
  ∀ g a w, Agr n ρ a → sat g w A → wpAnyIn (Fc ⟨none⟩) 0 P .any ops (lift g n Q) fuel listed a w
theorem tc_regh {μ : Rm} {id : Nat} {l : List Oper} (hm : P.follows .mixedOrders = true) (hd : Dr A S) (h : TH P n l.toArray Q S l.length (Array.replicate l.length false) ρ A) (hn : nodB l = true := by kernel_rfl) : @TC μ P n (.region id l.toArray true) Q ρ A :=
  tc_regt hm hn h
theorem th_done {fuel : Nat} {listed : Array Bool} (hr : Region.ready .any ops listed = []) (h : Q .normal ρ A) : TH P n ops Q S fuel listed ρ A := fun g a w ha hs =>
  wpAnyIn_done hr ⟨rfl, ρ, A, ha, hs, h⟩ fuel
theorem th_take {fuel i : Nat} {listed listed' : Array Bool} {v : Value} (hi : ops[i]? = some o) (hs' : Region.noSelect ops = true) (hf : Region.free .any ops listed i = true) (hr : (Region.ready .any ops listed).contains i = true)
    (hl : listed.setIfInBounds i true = listed') (hw : wantE n ops ρ o = true) (hv : OpV P n ρ emp o v) (k : TH P n ops Q S fuel listed' (put n ρ o.dst v) A) (hc : notCall o = true := by rfl) : TH P n ops Q S (fuel + 1) listed ρ A := fun g a w ha hs =>
  wpAnyIn_take rfl hi hs' hf hr (fun c a w h => absurd h.1 (by simp [okE])) ⟨.inl ⟨by rw [want_eq ha, hw], fun w' => by
    rw [ha.eval]
    exact hv ⟨w'.os, w'.tape, w'.output⟩ w' ⟨rfl, rfl, rfl, _, rfl, fun _ _ _ h => by cases h⟩⟩, fun w' => about_none hc w' _⟩ (by rw [hl]; exact k g _ w (ha.put _ _) hs)
def OH (P : Program) (n : Nat) (ops : Array Oper) (Q : Post) (S : SP) (fuel i : Nat) (listed : Array Bool) (ρ : Env) (A : SP) : Prop :=
  ∀ g a w, Agr n ρ a → sat g w A → wpOpIn (Fc ⟨none⟩) 0 P ops (lift g n Q) i (wpAnyIn (Fc ⟨none⟩) 0 P .any ops (lift g n Q) fuel (listed.setIfInBounds i true)) a w
theorem th_all {fuel : Nat} {listed : Array Bool} {rs : List Nat} (hr : Region.ready .any ops listed = rs) (hne : rs ≠ []) (h : ∀ i ∈ rs, OH P n ops Q S fuel i listed ρ A) : TH P n ops Q S (fuel + 1) listed ρ A := fun g a w ha hs =>
  wpAnyIn_all hr hne fun i hi => h i hi g a w ha hs
theorem th_one {fuel i : Nat} {listed : Array Bool} (hr : Region.ready .any ops listed = [i]) (h : OH P n ops Q S fuel i listed ρ A) : TH P n ops Q S (fuel + 1) listed ρ A := th_all hr (by simp) (by simpa using h)
theorem th_two {fuel i j : Nat} {listed : Array Bool} (hr : Region.ready .any ops listed = [i, j]) (h : OH P n ops Q S fuel i listed ρ A) (h' : OH P n ops Q S fuel j listed ρ A) : TH P n ops Q S (fuel + 1) listed ρ A :=
  th_all hr (by simp) (by simpa using ⟨h, h'⟩)
theorem th_three {fuel i j k : Nat} {listed : Array Bool} (hr : Region.ready .any ops listed = [i, j, k]) (h : OH P n ops Q S fuel i listed ρ A) (h' : OH P n ops Q S fuel j listed ρ A) (h'' : OH P n ops Q S fuel k listed ρ A) : TH P n ops Q S (fuel + 1) listed ρ A :=
  th_all hr (by simp) (by simpa using ⟨h, h', h''⟩)
section
variable {fuel i : Nat} {listed listed' : Array Bool}
theorem oh_v {v : Value} (hi : ops[i]? = some o) (hl : listed.setIfInBounds i true = listed') (hw : wantE n ops ρ o = true) (h : OpV P n ρ A o v) (k : TH P n ops Q S fuel listed' (put n ρ o.dst v) A) : OH P n ops Q S fuel i listed ρ A := fun g a w ha hs => by
  subst hl
  unfold wpOpIn
  simp only [hi, want_eq ha, hw, if_true]
  refine ⟨fun _ _ => trivial, ?_⟩
  rw [ha.eval, sem_eq (h g w hs) (by simp)]
  exact k g _ w (ha.put _ _) hs
theorem oh_x {R : Value → SP → Prop} (hi : ops[i]? = some o) (hl : listed.setIfInBounds i true = listed') (hw : wantE n ops ρ o = true) (h : OpX P n ρ A o R) (k : ∀ v B, R v B → Dr B S ∧ TH P n ops Q S fuel listed' (put n ρ o.dst v) B) : OH P n ops Q S fuel i listed ρ A := fun g a w ha hs => by
  subst hl
  unfold wpOpIn
  simp only [hi, want_eq ha, hw, if_true]
  refine ⟨fun _ _ => trivial, ?_⟩
  obtain ⟨v, w', B, hr, hb, hR⟩ := h g w hs
  rw [ha.eval, sem_eq hr (by simp)]
  exact (k v B hR).2 g _ w' (ha.put _ _) hb
theorem oh_c {R : Value → SP → Prop} (hi : ops[i]? = some o) (hl : listed.setIfInBounds i true = listed') (hw : wantE n ops ρ o = true) (h : OpC P n ρ A o R) (k : ∀ v B, R v B → Dr B S ∧ TH P n ops Q S fuel listed' (put n ρ o.dst v) B) : OH P n ops Q S fuel i listed ρ A := fun g a w ha hs => by
  subst hl
  unfold wpOpIn
  simp only [hi, want_eq ha, hw, if_true]
  refine ⟨fun _ _ => trivial, ?_⟩
  obtain ⟨f, args, w', hr, hc⟩ := h g w hs
  rw [ha.eval, sem_eq hr (by simp)]
  refine ⟨fun h => (by cases h), ?_⟩
  have hc' : CallsIn Fence.wide (0 - 1) P f args w' fun e w'' => ∃ v B, e = .returned v ∧ R v B ∧ sat g w'' B := callsIn_wide.2 hc
  refine CallsIn.mono (show CallsIn (Fc ⟨none⟩) (0 - 1) P f args w' _ from hc') fun e w'' ⟨v, B, he, hR, hb⟩ => ?_
  subst he
  exact (k v B hR).2 g _ w'' (ha.put _ _) hb
theorem oh_u {B : SP} (hi : ops[i]? = some o) (hl : listed.setIfInBounds i true = listed') (hw : wantE n ops ρ o = true) (h : OpU P n ρ A o B) (hd : Dr B S) (k : TH P n ops Q S fuel listed' (put n ρ o.dst undef) B) : OH P n ops Q S fuel i listed ρ A := fun g a w ha hs => by
  subst hl
  unfold wpOpIn
  simp only [hi, want_eq ha, hw, if_true]
  refine ⟨fun _ _ => trivial, ?_⟩
  obtain ⟨w', hr, hb⟩ := h g w hs
  rw [ha.eval, sem_eq hr (by simp)]
  exact k g _ w' (ha.put _ _) hb
end
theorem th_env {fuel : Nat} {listed : Array Bool} {d : Nat} {v : Value} (h : ρ d = v) (k : TH P n ops Q S fuel listed (upd ρ d v) A) : TH P n ops Q S fuel listed ρ A := by
  rw [← env_set h] at k; exact k
end
end Rg
end Go.Vl
