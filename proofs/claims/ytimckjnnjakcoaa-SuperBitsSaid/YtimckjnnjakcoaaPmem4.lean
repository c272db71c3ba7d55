/- Walks of package pmem: an operation is counted; a word is laid. Conditions: none. -/
import Derived.Test.YtimckjnnjakcoaaPmem3
set_option linter.unusedVariables false
set_option linter.unusedSimpArgs false
namespace Go.Vl
open Go Go.Proofs


theorem sl_cut {k n cap b o l : Nat} {xs : List Value} {R : SP} {g : Gh} {w : World} (hs : sat g w (R * Sl k (.slice (some ⟨b, o, none⟩) n cap) n xs)) (hl : l ≤ n) :
    sat g w (R * Sl k (.slice (cutAddr (some ⟨b, o, none⟩) cap l k) (n - l) (cap - l)) (n - l) (xs.drop (l * k))) := by
  obtain ⟨h1, ⟨e1, _⟩ | ⟨b', off, cap', c, E, e1, h2, h3, h4, hs'⟩⟩ := sl_iff.1 hs
  · cases e1
  · simp only [Value.slice.injEq, Option.some.injEq, Addr.mk.injEq] at e1
    obtain ⟨⟨rfl, rfl, _⟩, _, rfl⟩ := e1
    have hnl : l * k ≤ n * k := Nat.mul_le_mul_right k hl
    have hcl : l * k ≤ cap * k := Nat.mul_le_mul_right k (by omega)
    refine sl_iff.2 ⟨by rw [List.length_drop, h1, Nat.sub_mul], .inr ?_⟩
    by_cases hc : cap = l
    · refine ⟨b, o, cap - l, c, E, by unfold cutAddr; rw [if_pos hc], by omega, ?_, ?_, hs'⟩
      · rw [Nat.sub_mul]; omega
      · have : n - l = 0 := by omega
        rw [this, Nat.zero_mul, List.take_zero, List.drop_eq_nil_of_le]
        have : n * k ≤ l * k := Nat.mul_le_mul_right k (by omega)
        omega
    · refine ⟨b, o + l * k, cap - l, c, E, ?_, by omega, ?_, ?_, hs'⟩
      · unfold cutAddr; rw [if_neg hc]; simp [addr_add]
      · rw [Nat.sub_mul]; omega
      · rw [← h4, List.drop_take, List.drop_drop, Nat.sub_mul, Nat.add_comm]
theorem sat.perm {g : Gh} {w : World} {A B : SP} (h : sat g w A) (e : A = B) : sat g w B := e ▸ h

def wr64 (x : Int) : Int := IntKind.i64.wrap x
/-- An operation is counted; by the first arm the power may go behind it. -/
def doneS (s : DevS) : DevS := match s.arms with
  | [] => { s with ops := wr64 (s.ops + 1) }
  | a :: ar => if wr64 (s.cnt + 1) < a.1 then { s with ops := wr64 (s.ops + 1), cnt := wr64 (s.cnt + 1) }
    else goesS a.2 { s with ops := wr64 (s.ops + 1), arms := ar, cnt := 0 }
def doneE (s : DevS) : Int := match s.arms with
  | [] => 0
  | a :: _ => if wr64 (s.cnt + 1) < a.1 then 0 else 5
theorem doneS_wf {s : DevS} (h : WfD s) : WfD (doneS s) := by
  unfold doneS
  split
  · exact ⟨h.pos, h.top, h.line, h.arms, h.after, h.keeps⟩
  · rename_i a ar e
    split
    · exact ⟨h.pos, h.top, h.line, h.arms, h.after, h.keeps⟩
    · refine goesS_wf ⟨h.pos, h.top, h.line, ?_, ?_, ?_⟩
      · have := h.arms; rw [e] at this; simp at this ⊢; omega
      · intro x hx; exact h.after x (by rw [e]; simp [hx])
      · intro x hx; exact h.keeps x (by rw [e]; simp [hx])

theorem devC_arms {F : SP} {d bl : Nat} {svs kvs : List Value} {av : Value} {s : DevS} {g : Gh} {w : World} (hs : sat g w (F * DevC d bl svs av kvs s)) :
    ∃ a cap, av = .slice a s.arms.length cap ∧ s.arms.length ≤ cap ∧ (acs kvs s.arms).length = s.arms.length * 2 ∧ Rd (F * DevC d bl svs av kvs s) a (acs kvs s.arms) :=
  sl_have' (R := F * KeepsR kvs s.arms * LinesR svs s.ls * pt bl (cl (lcs svs s.ls) 150) * pt d (cl (dcs bl s.ls.length s av) 97)) (by unfold DevC ArmsR; ac_rfl) hs
theorem devC_arms' {F : SP} {d bl n c : Nat} {svs kvs : List Value} {a : Option Addr} {s : DevS} {g : Gh} {w : World} (hs : sat g w (F * DevC d bl svs (.slice a n c) kvs s)) : Rd (F * DevC d bl svs (.slice a n c) kvs s) a (acs kvs s.arms) := by
  obtain ⟨a', cap, e, _, _, h⟩ := devC_arms hs
  simp only [Value.slice.injEq] at e
  rw [← e.1] at h; exact h
theorem devC_cut {F : SP} {d bl b o n c : Nat} {svs kvs : List Value} {kv : Value} {s s' : DevS} {arm : Int × List Int} {ar : List (Int × List Int)} (hn : n = s.arms.length) (ha : s.arms = arm :: ar) (hls : s'.ls = s.ls) (har : s'.arms = ar) {g : Gh} {w : World}
    (hs : sat g w (F * ArmsR (.slice (some ⟨b, o, none⟩) n c) (kv :: kvs) s.arms * LinesR svs s.ls * pt bl (cl (lcs svs s.ls) 150) * pt d (cl (dcs bl s.ls.length s' (.slice (cutAddr (some ⟨b, o, none⟩) c 1 2) (n - 1) (c - 1))) 97))) :
    sat g w (F * SlR 1 kv arm.2.length (ints arm.2) * DevC d bl svs (.slice (cutAddr (some ⟨b, o, none⟩) c 1 2) (n - 1) (c - 1)) kvs s') := by
  unfold ArmsR at hs
  rw [ha] at hs
  have h1 := sl_cut (l := 1) (hs.perm (B := F * (KeepsR kvs ar * SlR 1 kv arm.2.length (ints arm.2)) * LinesR svs s.ls * pt bl (cl (lcs svs s.ls) 150) * pt d (cl (dcs bl s.ls.length s' (.slice (cutAddr (some ⟨b, o, none⟩) c 1 2) (n - 1) (c - 1))) 97) * Sl 2 (.slice (some ⟨b, o, none⟩) n c) n (acs (kv :: kvs) (arm :: ar)))
    (by rw [hn, ha]; simp only [KeepsR]; ac_rfl)) (by rw [hn, ha]; simp)
  refine h1.perm ?_
  unfold DevC ArmsR
  rw [hls, har]
  have : n - 1 = ar.length := by rw [hn, ha]; simp
  rw [this]
  simp only [acs, Nat.one_mul, List.drop_succ_cons, List.drop_zero]
  ac_rfl

theorem done_f (F : SP) (d : Nat) (s : DevS) :
    Fn Try.prog 101 #[.pointer (some ⟨d, 0, none⟩)] (F * Dev d s) (fun r B => r = .int .i64 (doneE s) ∧ B = F * Dev d (doneS s)) := by
  refine fn_enterW (args := [.pointer (some ⟨d, 0, none⟩)]) Try.func101 rfl Try.ntmps101 (by simp) ?_
  refine tc_dev fun hw bl svs av kvs hsv hkv => ?_
  have hpos := hw.pos
  have htop := hw.top
  have har64 := hw.arms
  refine tc_have (fun _ _ h => devC_arms h) fun ⟨aa, ca, hav, hca, hal, _⟩ => ?_
  subst hav
  refine tc_seq ?_
  refine tc_reg ?_
  refine tl_v rfl (o_assign rfl) ?_
  refine tl_nil ?_
  refine q_then_n ?_
  refine tc_seq ?_
  refine tc_reg ?_
  refine tl_v rfl (o_move rfl) ?_
  refine tl_v rfl (o_nilCheck rfl) ?_
  refine tl_v rfl (o_fieldAddr (o := 1) Try.underlying97 rfl rfl sz3 rfl) ?_
  refine tl_v rfl (o_load p3 rfl devC_d rfl) ?_
  refine tl_v rfl (o_add rfl rfl) ?_
  refine tl_v rfl (o_nilCheck rfl) ?_
  refine tl_v rfl (o_fieldAddr (o := 1) Try.underlying97 rfl rfl sz3 rfl) ?_
  refine tl_u rfl (o_store sz3 rfl rfl rfl (by show 1 < 5; decide) rfl (devC_upd (wr64 (s.ops + 1)) s.cnt s.off)) ?_
  refine tl_nil ?_
  refine q_then_n ?_
  refine tc_seq ?_
  refine tc_seq ?_
  refine tc_reg ?_
  refine tl_v rfl (o_move rfl) ?_
  refine tl_v rfl (o_nilCheck rfl) ?_
  refine tl_v rfl (o_fieldAddr (o := 2) Try.underlying97 rfl rfl sz74 rfl) ?_
  refine tl_v rfl (o_load p74 rfl devC_d rfl) ?_
  refine tl_v rfl (o_len Try.underlying74 rfl) ?_
  refine tl_v rfl (o_eqi rfl rfl) ?_
  refine tl_nil ?_
  refine q_then_n ?_
  refine tc_cond rfl (fun h => ?_) (fun h => ?_)
  · try simp only [decide_eq_true_eq, decide_eq_false_iff_not, Bool.not_eq_true', Bool.not_eq_false', Option.isNone_some, Option.isNone_none, Bool.not_true, Bool.not_false] at h
    refine tc_seq ?_
    refine tc_reg ?_
    refine tl_v rfl (o_assign rfl) ?_
    refine tl_nil ?_
    refine q_then_n ?_
    refine tc_ret ?_
    refine q_then_r ?_
    have e : s.arms = [] := List.eq_nil_of_length_eq_zero (by omega)
    have e1 : doneS s = { s with ops := wr64 (s.ops + 1) } := by unfold doneS; rw [e]
    exact ⟨.int .i64 0, _, res1 rfl rfl, dev_back (s := { s with ops := wr64 (s.ops + 1) }) (by rw [← e1]; exact doneS_wf hw) hsv hkv, by unfold doneE; rw [e], by rw [e1]⟩
  · simp only [decide_eq_false_iff_not] at h
    obtain ⟨arm, ar, har⟩ : ∃ arm ar, s.arms = arm :: ar := by
      cases e : s.arms with
      | nil => rw [e] at h; simp at h
      | cons x y => exact ⟨x, y, rfl⟩
    obtain ⟨kv, kvs, rfl⟩ : ∃ kv kvs', kvs = kv :: kvs' := by
      cases kvs with
      | nil => rw [har] at hkv; simp at hkv
      | cons x y => exact ⟨x, y, rfl⟩
    have hacs : acs (kv :: kvs) s.arms = .int .i64 arm.1 :: kv :: acs kvs ar := by rw [har]; rfl
    have hkp := hw.keeps arm (by rw [har]; simp)
    refine tc_skip ?_
    refine q_then_n ?_
    refine tc_seq ?_
    refine tc_reg ?_
    refine tl_v rfl (o_move rfl) ?_
    refine tl_v rfl (o_nilCheck rfl) ?_
    refine tl_v rfl (o_fieldAddr (o := 3) Try.underlying97 rfl rfl sz3 rfl) ?_
    refine tl_v rfl (o_load p3 rfl devC_d rfl) ?_
    refine tl_v rfl (o_add rfl rfl) ?_
    refine tl_v rfl (o_nilCheck rfl) ?_
    refine tl_v rfl (o_fieldAddr (o := 3) Try.underlying97 rfl rfl sz3 rfl) ?_
    refine tl_u rfl (o_store sz3 rfl rfl rfl (by show 3 < 5; decide) rfl (devC_upd (wr64 (s.ops + 1)) (wr64 (s.cnt + 1)) s.off)) ?_
    refine tl_have (fun _ _ h => devC_arms' h) fun hrd => ?_
    obtain ⟨b, o, rfl, hcs⟩ := hrd.some (by show 0 < (acs _ s.arms).length; rw [hacs]; simp)
    have g0 := hcs 0 (.int .i64 arm.1) (by show (acs _ s.arms)[0]? = _; rw [hacs]; rfl)
    have g1 := hcs 1 kv (by show (acs _ s.arms)[1]? = _; rw [hacs]; rfl)
    have hlen1 : 1 ≤ s.arms.length := by rw [har]; simp
    refine tl_nil ?_
    refine q_then_n ?_
    refine tc_seq ?_
    refine tc_seq ?_
    refine tc_regq mo (by kernel_rfl) ?_
    refine ql_v rfl (o_move rfl) ?_
    refine ql_v rfl (o_nilCheck rfl) ?_
    refine ql_v rfl (o_fieldAddr (o := 3) Try.underlying97 rfl rfl sz3 rfl) ?_
    refine ql_v rfl (o_load p3 rfl devC_d rfl) ?_
    refine ql_v rfl (o_move rfl) ?_
    refine ql_v rfl (o_nilCheck rfl) ?_
    refine ql_v rfl (o_fieldAddr (o := 2) Try.underlying97 rfl rfl sz74 rfl) ?_
    refine ql_v rfl (o_load p74 rfl devC_d rfl) ?_
    refine ql_v rfl (o_indexAddr Try.underlying74 sz72 rfl rfl (by omega) (by omega)) ?_
    refine ql_v rfl (o_fieldAddr (o := 0) Try.underlying72 rfl rfl sz3 rfl) ?_
    refine ql_v rfl (o_loadC p3 rfl g0) ?_
    refine ql_v rfl (o_lss rfl rfl) ?_
    refine ql_nil ?_
    refine q_then_n ?_
    refine tc_cond rfl (fun h => ?_) (fun h => ?_)
    · try simp only [decide_eq_true_eq, decide_eq_false_iff_not, Bool.not_eq_true', Bool.not_eq_false', Option.isNone_some, Option.isNone_none, Bool.not_true, Bool.not_false] at h
      refine tc_seq ?_
      refine tc_reg ?_
      refine tl_v rfl (o_assign rfl) ?_
      refine tl_nil ?_
      refine q_then_n ?_
      refine tc_ret ?_
      refine q_then_r ?_
      have e1 : doneS s = { s with ops := wr64 (s.ops + 1), cnt := wr64 (s.cnt + 1) } := by unfold doneS; rw [har]; simp only []; rw [if_pos h]
      exact ⟨.int .i64 0, _, res1 rfl rfl, dev_back (s := { s with ops := wr64 (s.ops + 1), cnt := wr64 (s.cnt + 1) }) (by rw [← e1]; exact doneS_wf hw) hsv hkv, by unfold doneE; rw [har]; simp only []; rw [if_pos h], by rw [e1]⟩
    · try simp only [decide_eq_true_eq, decide_eq_false_iff_not, Bool.not_eq_true', Bool.not_eq_false', Option.isNone_some, Option.isNone_none, Bool.not_true, Bool.not_false] at h
      refine tc_skip ?_
      refine q_then_n ?_
      refine tc_seq ?_
      refine tc_reg ?_
      refine tl_v rfl (o_move rfl) ?_
      refine tl_v rfl (o_nilCheck rfl) ?_
      refine tl_v rfl (o_fieldAddr (o := 2) Try.underlying97 rfl rfl sz74 rfl) ?_
      refine tl_v rfl (o_load p74 rfl devC_d rfl) ?_
      refine tl_v rfl (o_indexAddr Try.underlying74 sz72 rfl rfl (by omega) (by omega)) ?_
      refine tl_v rfl (o_fieldAddr (o := 1) Try.underlying72 rfl rfl sz37 rfl) ?_
      refine tl_v rfl (o_loadC p37 rfl g1) ?_
      refine tl_v rfl (o_assign rfl) ?_
      refine tl_nil ?_
      refine q_then_n ?_
      refine tc_seq ?_
      refine tc_reg ?_
      refine tl_v rfl (o_move rfl) ?_
      refine tl_v rfl (o_move rfl) ?_
      refine tl_v rfl (o_nilCheck rfl) ?_
      refine tl_v rfl (o_fieldAddr (o := 2) Try.underlying97 rfl rfl sz74 rfl) ?_
      refine tl_v rfl (o_load p74 rfl devC_d rfl) ?_
      refine tl_v rfl (o_slice (l := 1) (h := s.arms.length) Try.underlying74 sz72 rfl (bnd_nat (r := 1) rfl) bnd_none (by omega) (by omega)) ?_
      refine tl_v rfl (o_nilCheck rfl) ?_
      refine tl_v rfl (o_fieldAddr (o := 2) Try.underlying97 rfl rfl sz74 rfl) ?_
      refine tl_eq devC_eq ?_
      refine tl_u rfl (o_store (l' := dcs bl s.ls.length { s with ops := wr64 (s.ops + 1), cnt := wr64 (s.cnt + 1), arms := ar } (.slice (cutAddr (some ⟨b, o, none⟩) ca 1 2) (s.arms.length - 1) (ca - 1))) sz74 rfl rfl rfl (by show 2 < 5; decide) rfl upd_here) ?_
      refine tl_pre (fun _ _ h => devC_cut (s := { s with ops := wr64 (s.ops + 1), cnt := wr64 (s.cnt + 1) }) (s' := { s with ops := wr64 (s.ops + 1), cnt := wr64 (s.cnt + 1), arms := ar }) (arm := arm) (ar := ar) rfl har rfl rfl h) ?_
      refine tl_nil ?_
      refine q_then_n ?_
      refine tc_seq ?_
      refine tc_reg ?_
      refine tl_v rfl (o_move rfl) ?_
      refine tl_v rfl (o_nilCheck rfl) ?_
      refine tl_v rfl (o_fieldAddr (o := 3) Try.underlying97 rfl rfl sz3 rfl) ?_
      refine tl_u rfl (o_store sz3 rfl rfl rfl (by show 3 < 5; decide) rfl (devC_upd (wr64 (s.ops + 1)) 0 s.off)) ?_
      refine tl_have (fun _ _ h => slR_have rfl h.left) fun ⟨ka, kc, hkv2, _, _, hkr⟩ => ?_
      subst hkv2
      have hw2 : WfD { s with ops := wr64 (s.ops + 1), arms := ar, cnt := 0 } := ⟨hw.pos, hw.top, hw.line, by have := hw.arms; rw [har] at this; simp at this ⊢; omega, fun x hx => hw.after x (by rw [har]; simp at hx ⊢; exact .inr hx), fun x hx => hw.keeps x (by rw [har]; simp at hx ⊢; exact .inr hx)⟩
      refine tl_pre (dev_back (s := { s with ops := wr64 (s.ops + 1), arms := ar, cnt := 0 }) hw2 hsv (by rw [har] at hkv; simpa using hkv)) ?_
      refine tl_nil ?_
      refine q_then_n ?_
      refine tc_seq ?_
      refine tc_reg ?_
      refine tl_v rfl (o_move rfl) ?_
      refine tl_v rfl (o_move rfl) ?_
      refine tl_c rfl (o_call bd92 rfl (goes_f _ d kc _ ka arm.2 hkr hkp.2 hkp.1)) ?_
      rintro _ _ ⟨rfl, rfl⟩
      refine tl_nil ?_
      refine q_then_n ?_
      refine tc_seq ?_
      refine tc_reg ?_
      refine tl_v rfl (o_assign rfl) ?_
      refine tl_nil ?_
      refine q_then_n ?_
      refine tc_ret ?_
      have e1 : doneS s = goesS arm.2 { s with ops := wr64 (s.ops + 1), arms := ar, cnt := 0 } := by unfold doneS; rw [har]; simp only []; rw [if_neg h]
      exact ⟨.int .i64 5, _, res1 rfl rfl, fun _ _ h => h.drop2, by unfold doneE; rw [har]; simp only []; rw [if_neg h], by rw [e1]⟩

end Go.Vl
