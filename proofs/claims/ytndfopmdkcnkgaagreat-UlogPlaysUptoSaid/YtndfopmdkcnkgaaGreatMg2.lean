/- What the row rests on, part 2: a calculus of assertions, walks of functions over it, and plain laws. Conditions: none. -/
import Derived.Deep.QuietTactic
import Derived.BigQuiet
import Derived.WalkKit
import Derived.Test.YtndfopmdkcnkgaaGreatProg
import Derived.OrdersHeld
import Derived.Laws.BytesArg
import Derived.RangeFuncRecord
import Derived.TacticsIn
import Derived.Deep.Slices
import Derived.OpenShut
import Derived.ChangeArms
import Derived.SizedLaws
import Derived.ChangeSame
import Derived.Test.YtndfopmdkcnkgaaGreatRows
import Derived.Sort.QuietThIn
import Derived.Test.YtndfopmdkcnkgaaGreatMg1
set_option linter.unusedVariables false
set_option linter.unusedSimpArgs false
namespace Go.Vl
open Go Go.Proofs
theorem sl_cut {k n cap b o l : Nat} {xs : List Value} {R : SP} {g : Gh} {w : World} (hs : sat g w (R * Sl k (.slice (some ⟨b, o, none⟩) n cap) n xs)) (hl : l ≤ n) :
    sat g w (R * Sl k (.slice (cutAddr (some ⟨b, o, none⟩) cap l k) (n - l) (cap - l)) (n - l) (xs.drop (l * k))) := by
  obtain ⟨h1, ⟨e1, _⟩ | ⟨b', off, cap', c, E, e1, h2, h3, h4, hs'⟩⟩ := sl_iff.1 hs
  · cases e1
  · simp only [Value.slice.injEq, Option.some.injEq, Addr.mk.injEq] at e1
    obtain ⟨⟨rfl, rfl, _⟩, _, rfl⟩ := e1
    have hnl : l * k ≤ n * k := Nat.mul_le_mul_right k hl
    have hcl : l * k ≤ cap * k := Nat.mul_le_mul_right k oqz
    refine sl_iff.2 ⟨by rw [List.length_drop, h1, Nat.sub_mul], .inr ?_⟩
    by_cases hc : cap = l
    · refine ⟨b, o, cap - l, c, E, by unfold cutAddr; rw [if_pos hc], by omega, ?_, ?_, hs'⟩
      · rw [Nat.sub_mul]; omega
      · have : n - l = 0 := by omega
        rw [this, Nat.zero_mul, List.take_zero, List.drop_eq_nil_of_le]
        have : n * k ≤ l * k := Nat.mul_le_mul_right k oqz
        omega
    · refine ⟨b, o + l * k, cap - l, c, E, ?_, by omega, ?_, ?_, hs'⟩
      · unfold cutAddr; rw [if_neg hc]; simp [addr_add]
      · rw [Nat.sub_mul]; omega
      · rw [← h4, List.drop_take, List.drop_drop, Nat.sub_mul, Nat.add_comm]
theorem sat.perm {g : Gh} {w : World} {A B : SP} (h : sat g w A) (e : A = B) : sat g w B := e ▸ h
def wr64 (x : Int) : Int := IntKind.i64.wrap x
/-- An operation is counted; by the first arm the power may go behind it. -/
def doneS (s : DevS) : DevS := match s.arms with
  | [] => { s with ops := wr64 (s.ops + 1) }
  | a :: ar => if wr64 (s.cnt + 1) < a.1 then { s with ops := wr64 (s.ops + 1), cnt := wr64 (s.cnt + 1) }
    else goesS a.2 { s with ops := wr64 (s.ops + 1), arms := ar, cnt := 0 }
def doneE (s : DevS) : Int := match s.arms with
  | [] => 0
  | a :: _ => if wr64 (s.cnt + 1) < a.1 then 0 else 5
theorem doneS_wf {s : DevS} (h : WfD s) : WfD (doneS s) := by
  unfold doneS
  split
  · exact ⟨h.pos, h.top, h.line, h.arms, h.after, h.keeps⟩
  · rename_i a ar e
    split
    · exact ⟨h.pos, h.top, h.line, h.arms, h.after, h.keeps⟩
    · refine goesS_wf ⟨h.pos, h.top, h.line, ?_, ?_, ?_⟩
      · have := h.arms; rw [e] at this; simp at this ⊢; omega
      · intro x hx; exact h.after x (by rw [e]; simp [hx])
      · intro x hx; exact h.keeps x (by rw [e]; simp [hx])
theorem devC_arms {F : SP} {d bl : Nat} {svs kvs : List Value} {av : Value} {s : DevS} {g : Gh} {w : World} (hs : sat g w (F * DevC d bl svs av kvs s)) :
    ∃ a cap, av = .slice a s.arms.length cap ∧ s.arms.length ≤ cap ∧ (acs kvs s.arms).length = s.arms.length * 2 ∧ Rd (F * DevC d bl svs av kvs s) a (acs kvs s.arms) :=
  sl_have' (R := F * KeepsR kvs s.arms * LinesR svs s.ls * pt bl (cl (lcs svs s.ls) 71) * pt d (cl (dcs bl s.ls.length s av) 64)) (by unfold DevC ArmsR; ac_rfl) hs
theorem devC_arms' {F : SP} {d bl n c : Nat} {svs kvs : List Value} {a : Option Addr} {s : DevS} {g : Gh} {w : World} (hs : sat g w (F * DevC d bl svs (.slice a n c) kvs s)) : Rd (F * DevC d bl svs (.slice a n c) kvs s) a (acs kvs s.arms) := by
  obtain ⟨a', cap, e, _, _, h⟩ := devC_arms hs
  simp only [Value.slice.injEq] at e
  rw [← e.1] at h; exact h
theorem devC_cut {F : SP} {d bl b o n c : Nat} {svs kvs : List Value} {kv : Value} {s s' : DevS} {arm : Int × List Int} {ar : List (Int × List Int)} (hn : n = s.arms.length) (ha : s.arms = arm :: ar) (hls : s'.ls = s.ls) (har : s'.arms = ar) {g : Gh} {w : World}
    (hs : sat g w (F * ArmsR (.slice (some ⟨b, o, none⟩) n c) (kv :: kvs) s.arms * LinesR svs s.ls * pt bl (cl (lcs svs s.ls) 71) * pt d (cl (dcs bl s.ls.length s' (.slice (cutAddr (some ⟨b, o, none⟩) c 1 2) (n - 1) (c - 1))) 64))) :
    sat g w (F * SlR 1 kv arm.2.length (ints arm.2) * DevC d bl svs (.slice (cutAddr (some ⟨b, o, none⟩) c 1 2) (n - 1) (c - 1)) kvs s') := by
  unfold ArmsR at hs
  rw [ha] at hs
  have h1 := sl_cut (l := 1) (hs.perm (B := F * (KeepsR kvs ar * SlR 1 kv arm.2.length (ints arm.2)) * LinesR svs s.ls * pt bl (cl (lcs svs s.ls) 71) * pt d (cl (dcs bl s.ls.length s' (.slice (cutAddr (some ⟨b, o, none⟩) c 1 2) (n - 1) (c - 1))) 64) * Sl 2 (.slice (some ⟨b, o, none⟩) n c) n (acs (kv :: kvs) (arm :: ar)))
    (by rw [hn, ha]; simp only [KeepsR]; ac_rfl)) (by rw [hn, ha]; simp)
  refine h1.perm ?_
  unfold DevC ArmsR
  rw [hls, har]
  have : n - 1 = ar.length := by rw [hn, ha]; simp
  rw [this]
  simp only [acs, Nat.one_mul, List.drop_succ_cons, List.drop_zero]
  ac_rfl
theorem done_f (F : SP) (d : Nat) (s : DevS) :
    Fn Tryz.prog 80 #[.pointer (some ⟨d, 0, none⟩)] (F * Dev d s) (fun r B => r = .int .i64 (doneE s) ∧ B = F * Dev d (doneS s)) := by
  refine fn_enterW (args := [.pointer (some ⟨d, 0, none⟩)]) Tryz.func80 rfl Tryz.ntmps80 (by simp) ?_; refine tc_dev fun hw bl svs av kvs hsv hkv => ?_
  have hpos := hw.pos
  have htop := hw.top
  have har64 := hw.arms
  refine tc_have (fun _ _ h => devC_arms h) fun ⟨aa, ca, hav, hca, hal, _⟩ => ?_
  subst hav
  refine sr ?_; refine tv (o_assign rfl) ?_; refine nq ?_; refine sr ?_; refine tv (o_move rfl) ?_; refine tv (o_nilCheck rfl) ?_; refine tv (o_fieldAddr (o := 1) Tryz.underlying64 rfl rfl sz3 rfl) ?_; refine tv (o_load p3 rfl devC_d rfl) ?_; refine tv (o_add rfl rfl) ?_; refine tv (o_nilCheck rfl) ?_; refine tv (o_fieldAddr (o := 1) Tryz.underlying64 rfl rfl sz3 rfl) ?_; refine tl_u rfl (o_store sz3 rfl rfl rfl (by show 1 < 5; decide) rfl (devC_upd (wr64 (s.ops + 1)) s.cnt s.off)) ?_; refine nq ?_; refine tc_seq ?_; refine sr ?_; refine tv (o_move rfl) ?_; refine tv (o_nilCheck rfl) ?_; refine tv (o_fieldAddr (o := 2) Tryz.underlying64 rfl rfl sz53 rfl) ?_; refine tv (o_load p53 rfl devC_d rfl) ?_; refine tv (o_len Tryz.underlying53 rfl) ?_; refine tv (o_eqi rfl rfl) ?_; refine nq ?_; refine tc_cond rfl (fun h => ?_) (fun h => ?_)
  · try simp only [lv1, lv2, lv3, lv4, lv5, lv6, Bool.not_true, Bool.not_false] at h
    refine sr ?_; refine tv (o_assign rfl) ?_; refine nq ?_; refine tc_ret ?_; refine q_then_r ?_
    have e : s.arms = [] := List.eq_nil_of_length_eq_zero oqz
    have e1 : doneS s = { s with ops := wr64 (s.ops + 1) } := by unfold doneS; rw [e]
    exact ⟨.int .i64 0, _, res1 rfl rfl, dev_back (s := { s with ops := wr64 (s.ops + 1) }) (by rw [← e1]; exact doneS_wf hw) hsv hkv, by unfold doneE; rw [e], by rw [e1]⟩
  · simp only [decide_eq_false_iff_not] at h
    obtain ⟨arm, ar, har⟩ : ∃ arm ar, s.arms = arm :: ar := by
      cases e : s.arms with
      | nil => rw [e] at h; simp at h
      | cons x y => exact ⟨x, y, rfl⟩
    obtain ⟨kv, kvs, rfl⟩ : ∃ kv kvs', kvs = kv :: kvs' := by
      cases kvs with
      | nil => rw [har] at hkv; simp at hkv
      | cons x y => exact ⟨x, y, rfl⟩
    have hacs : acs (kv :: kvs) s.arms = .int .i64 arm.1 :: kv :: acs kvs ar := by rw [har]; rfl
    have hkp := hw.keeps arm (by rw [har]; simp)
    refine tc_skip ?_; refine q_then_n ?_; refine sr ?_; refine tv (o_move rfl) ?_; refine tv (o_nilCheck rfl) ?_; refine tv (o_fieldAddr (o := 3) Tryz.underlying64 rfl rfl sz3 rfl) ?_; refine tv (o_load p3 rfl devC_d rfl) ?_; refine tv (o_add rfl rfl) ?_; refine tv (o_nilCheck rfl) ?_; refine tv (o_fieldAddr (o := 3) Tryz.underlying64 rfl rfl sz3 rfl) ?_; refine tl_u rfl (o_store sz3 rfl rfl rfl (by show 3 < 5; decide) rfl (devC_upd (wr64 (s.ops + 1)) (wr64 (s.cnt + 1)) s.off)) ?_; refine tl_have (fun _ _ h => devC_arms' h) fun hrd => ?_
    obtain ⟨b, o, rfl, hcs⟩ := hrd.some (by show 0 < (acs _ s.arms).length; rw [hacs]; simp)
    have g0 := hcs 0 (.int .i64 arm.1) (by show (acs _ s.arms)[0]? = _; rw [hacs]; rfl)
    have g1 := hcs 1 kv (by show (acs _ s.arms)[1]? = _; rw [hacs]; rfl)
    have hlen1 : 1 ≤ s.arms.length := by rw [har]; simp
    refine nq ?_; refine tc_seq ?_; refine tc_seq ?_; refine tc_regq mo kqz ?_; refine ql_v rfl (o_move rfl) ?_; refine ql_v rfl (o_nilCheck rfl) ?_; refine ql_v rfl (o_fieldAddr (o := 3) Tryz.underlying64 rfl rfl sz3 rfl) ?_; refine ql_v rfl (o_load p3 rfl devC_d rfl) ?_; refine ql_v rfl (o_move rfl) ?_; refine ql_v rfl (o_nilCheck rfl) ?_; refine ql_v rfl (o_fieldAddr (o := 2) Tryz.underlying64 rfl rfl sz53 rfl) ?_; refine ql_v rfl (o_load p53 rfl devC_d rfl) ?_; refine ql_v rfl (o_indexAddr Tryz.underlying53 sz107 rfl rfl oqz oqz) ?_; refine ql_v rfl (o_fieldAddr (o := 0) Tryz.underlying107 rfl rfl sz3 rfl) ?_; refine ql_v rfl (o_loadC p3 rfl g0) ?_; refine ql_v rfl (o_lss rfl rfl) ?_; refine ql_nil ?_; refine q_then_n ?_; refine tc_cond rfl (fun h => ?_) (fun h => ?_)
    · try simp only [lv1, lv2, lv3, lv4, lv5, lv6, Bool.not_true, Bool.not_false] at h
      refine sr ?_; refine tv (o_assign rfl) ?_; refine nq ?_; refine tc_ret ?_; refine q_then_r ?_
      have e1 : doneS s = { s with ops := wr64 (s.ops + 1), cnt := wr64 (s.cnt + 1) } := by unfold doneS; rw [har]; simp only []; rw [if_pos h]
      exact ⟨.int .i64 0, _, res1 rfl rfl, dev_back (s := { s with ops := wr64 (s.ops + 1), cnt := wr64 (s.cnt + 1) }) (by rw [← e1]; exact doneS_wf hw) hsv hkv, by unfold doneE; rw [har]; simp only []; rw [if_pos h], by rw [e1]⟩
    · try simp only [lv1, lv2, lv3, lv4, lv5, lv6, Bool.not_true, Bool.not_false] at h
      refine tc_skip ?_; refine q_then_n ?_; refine sr ?_; refine tv (o_move rfl) ?_; refine tv (o_nilCheck rfl) ?_; refine tv (o_fieldAddr (o := 2) Tryz.underlying64 rfl rfl sz53 rfl) ?_; refine tv (o_load p53 rfl devC_d rfl) ?_; refine tv (o_indexAddr Tryz.underlying53 sz107 rfl rfl oqz oqz) ?_; refine tv (o_fieldAddr (o := 1) Tryz.underlying107 rfl rfl sz48 rfl) ?_; refine tv (o_loadC p48 rfl g1) ?_; refine tv (o_assign rfl) ?_; refine nq ?_; refine sr ?_; refine tv (o_move rfl) ?_; refine tv (o_move rfl) ?_; refine tv (o_nilCheck rfl) ?_; refine tv (o_fieldAddr (o := 2) Tryz.underlying64 rfl rfl sz53 rfl) ?_; refine tv (o_load p53 rfl devC_d rfl) ?_; refine tv (o_slice (l := 1) (h := s.arms.length) Tryz.underlying53 sz107 rfl (bnd_nat (r := 1) rfl) bnd_none oqz oqz) ?_; refine tv (o_nilCheck rfl) ?_; refine tv (o_fieldAddr (o := 2) Tryz.underlying64 rfl rfl sz53 rfl) ?_; refine tl_eq devC_eq ?_; refine tl_u rfl (o_store (l' := dcs bl s.ls.length { s with ops := wr64 (s.ops + 1), cnt := wr64 (s.cnt + 1), arms := ar } (.slice (cutAddr (some ⟨b, o, none⟩) ca 1 2) (s.arms.length - 1) (ca - 1))) sz53 rfl rfl rfl (by show 2 < 5; decide) rfl upd_here) ?_; refine tl_pre (fun _ _ h => devC_cut (s := { s with ops := wr64 (s.ops + 1), cnt := wr64 (s.cnt + 1) }) (s' := { s with ops := wr64 (s.ops + 1), cnt := wr64 (s.cnt + 1), arms := ar }) (arm := arm) (ar := ar) rfl har rfl rfl h) ?_
      refine nq ?_; refine sr ?_; refine tv (o_move rfl) ?_; refine tv (o_nilCheck rfl) ?_; refine tv (o_fieldAddr (o := 3) Tryz.underlying64 rfl rfl sz3 rfl) ?_; refine tl_u rfl (o_store sz3 rfl rfl rfl (by show 3 < 5; decide) rfl (devC_upd (wr64 (s.ops + 1)) 0 s.off)) ?_; refine tl_have (fun _ _ h => slR_have rfl h.left) fun ⟨ka, kc, hkv2, _, _, hkr⟩ => ?_
      subst hkv2
      have hw2 : WfD { s with ops := wr64 (s.ops + 1), arms := ar, cnt := 0 } := ⟨hw.pos, hw.top, hw.line, by have := hw.arms; rw [har] at this; simp at this ⊢; omega, fun x hx => hw.after x (by rw [har]; simp at hx ⊢; exact .inr hx), fun x hx => hw.keeps x (by rw [har]; simp at hx ⊢; exact .inr hx)⟩
      refine tl_pre (dev_back (s := { s with ops := wr64 (s.ops + 1), arms := ar, cnt := 0 }) hw2 hsv (by rw [har] at hkv; simpa using hkv)) ?_; refine nq ?_; refine sr ?_; refine tv (o_move rfl) ?_; refine tv (o_move rfl) ?_; refine tl_c rfl (o_call bd84 rfl (goes_f _ d kc _ ka arm.2 hkr hkp.2 hkp.1)) ?_; rintro _ _ ⟨rfl, rfl⟩; refine nq ?_; refine sr ?_; refine tv (o_assign rfl) ?_; refine nq ?_; refine tc_ret ?_
      have e1 : doneS s = goesS arm.2 { s with ops := wr64 (s.ops + 1), arms := ar, cnt := 0 } := by unfold doneS; rw [har]; simp only []; rw [if_neg h]
      exact ⟨.int .i64 5, _, res1 rfl rfl, fun _ _ h => h.drop2, by unfold doneE; rw [har]; simp only []; rw [if_neg h], by rw [e1]⟩
end Go.Vl

namespace Go.Vl
open Go Go.Proofs
/-- The bytes of words. -/
def lb (s : List Nat) : List Nat := s.flatMap (le 8)
theorem lb_length (s : List Nat) : (lb s).length = s.length * 8 := by
  induction s with
  | nil => rfl
  | cons x s ih => simp only [lb, List.flatMap_cons, List.length_append, le_length, List.length_cons] at *; omega
theorem lb_append (a b : List Nat) : lb (a ++ b) = lb a ++ lb b := by simp [lb]
theorem lb_take {s : List Nat} {i : Nat} (h : i < s.length) : lb (s.take (i + 1)) = lb (s.take i) ++ le 8 s[i] := by
  rw [List.take_succ_eq_append_getElem h, lb_append]; simp [lb]
theorem lb_zero : lb (List.replicate 8 0) = List.replicate 64 0 := by decide
theorem wds_eq (s : List Nat) : wds s = (s.map fun n : Nat => (n : Int)).map (Value.int .u64) := by rw [wds, List.map_map]; rfl
theorem map_inj {s t : List Nat} : (s.map fun n : Nat => (n : Int)) = (t.map fun n : Nat => (n : Int)) ↔ s = t := by
  constructor
  · intro h
    exact (List.map_inj_right (fun x y h => by omega)).1 h
  · rintro rfl; rfl
section
variable {P : Program} {n : Nat} {ρ : Env} {dst : Option Nat} {ty : TypeId} {pos : String} {after : Array Edge} {gd : Option (Nat × Bool)} {A : SP}
theorem o_eqarrW {t t' e : TypeId} {x y : Operand} {len : Nat} {xs ys : List Nat} (hu : P.underlying t = some (.array len e)) (hk : szE P e = some 1) (he : P.underlying e = some (.int .u64)) (hp : plainE P e = true)
    (hge : P.eqGuardType P.depth t = false) (hx : ev n ρ x = .agg (wds xs).toArray) (hy : ev n ρ y = .agg (wds ys).toArray) (h1 : xs.length = len) (h2 : ys.length = len) :
    OpV P n ρ A ⟨dst, .binOp .eql t x y t', ty, pos, after, gd⟩ (.bool (decide (xs = ys))) := by
  have := o_eqarr (A := A) (dst := dst) (ty := ty) (pos := pos) (after := after) (gd := gd) (t' := t') hu hk he hp hge (by rw [hx, wds_eq]) (by rw [hy, wds_eq]) (by rw [List.length_map, h1]) (by rw [List.length_map, h2])
  rwa [show decide ((xs.map fun n : Nat => (n : Int)) = (ys.map fun n : Nat => (n : Int))) = decide (xs = ys) from by simp only [map_inj]] at this
end
theorem cells_all {A : SP} {b k : Nat} {l : List Value} {E : TypeId} (h : Has A b (cl l E)) (hk : l.length = k) : Cells A b 0 l := cells_of_has (k := k) h (List.take_of_length_le (by rw [List.drop_zero]; omega))
theorem bytes_f (A : SP) (s : List Nat) (hs8 : s.length = 8) (hw : ∀ x ∈ s, x < 18446744073709551616) :
    Fn Tryz.prog 53 #[.agg (wds s).toArray] (A) (fun r B => ∃ u, r = u ∧ B = A * Sl 1 u 64 (bys (lb s))) := by
  refine fn_enterW (args := [.agg (wds s).toArray]) Tryz.func53 rfl Tryz.ntmps53 (by simp) ?_
  have hwl : (wds s).length = 8 := by rw [wds_length]; exact hs8
  refine sr ?_; refine tl_x rfl (o_box rfl rfl) ?_; rintro _ _ ⟨b1, rfl, rfl⟩; refine tv (o_assign rfl) ?_; refine nq ?_; refine tc_seq ?_; refine sr ?_; refine tv (o_loadNC a68 sz68 rfl hwl (cells_all sq5z hwl)) ?_; refine tv (o_buildA (vs := []) Tryz.underlying68 sz66 z68 rfl rfl rfl (Nat.zero_le _) rfl) ?_; refine tv (o_eqarrW (xs := s) (ys := List.replicate 8 0) Tryz.underlying68 sz66 Tryz.underlying66 p66 kqz rfl rfl hs8 rfl) ?_; refine nq ?_; refine tc_cond rfl (fun h => ?_) (fun h => ?_)
  · try simp only [lv1, lv2, lv3, lv4, lv5, lv6, Bool.not_true, Bool.not_false] at h
    refine sr ?_; refine tl_x rfl (o_makeSliceI Tryz.underlying22 sz5 by5 z5 rfl rfl rfl oqz oqz) ?_; rintro _ _ ⟨b9, rfl, rfl⟩; refine tv (o_assign rfl) ?_; refine nq ?_; refine tc_ret ?_; refine q_then_r ?_; exact ⟨_, _, res1 rfl rfl, fun _ _ hh => (sl_new (k := 1) (n := 64) (cap := 64) hh oqz (by simp) (List.take_of_length_le (by simp))).drop2, _, rfl, by rw [h, lb_zero]; rfl⟩
  · try simp only [lv1, lv2, lv3, lv4, lv5, lv6, Bool.not_true, Bool.not_false] at h
    refine tc_skip ?_; refine q_then_n ?_; refine sr ?_; refine tv (o_assign rfl) ?_; refine nq ?_; refine tc_seq ?_; refine sr ?_; refine tv (o_loadNC a68 sz68 rfl hwl (cells_all sq5z hwl)) ?_; refine tl_pre (fun _ _ h => sl_nil (k := 1) h) ?_; refine tv (o_move rfl) ?_; refine nq ?_; refine tc_block ?_; refine tc_loop (fun k ρ B => ∃ (i : Nat) (v : Value), i ≤ 8 ∧ k = 8 - i ∧ ρ 3 = v ∧ ρ 10 = .agg (wds s).toArray ∧ ρ 11 = .int .i64 i ∧ B = A * pt b1 (cl (wds s) 68) * Sl 1 v (lb (s.take i)).length (bys (lb (s.take i)))) (m := 8) ?_ ?_
    · exact ⟨0, .slice none 0 0, by omega, rfl, rfl, rfl, rfl, rfl⟩
    · intro k ρ B hI
      obtain ⟨i, v, hi, rfl, h3, h10, h11, rfl⟩ := hI
      refine tc_env (d := 3) h3 ?_; refine tc_env (d := 10) h10 ?_; refine tc_env (d := 11) h11 ?_; refine sr ?_; refine tv (o_lss rfl rfl) ?_; refine nq ?_; refine tc_seq ?_; refine tc_cond rfl (fun h => ?_) (fun h => ?_)
      · try simp only [lv1, lv2, lv3, lv4, lv5, lv6, Bool.not_true, Bool.not_false] at h
        refine tc_skip ?_; refine q_then_n ?_; refine tc_seq ?_; refine tc_block ?_; refine sr ?_; refine tv (o_index1 (cs := wds s) Tryz.underlying68 sz66 p66 rfl rfl oqz oqz (wds_at oqz)) ?_; refine tv (o_assign rfl) ?_; refine nq ?_; refine tc_reg ?_; refine tv (o_move rfl) ?_; refine tv (o_move rfl) ?_; refine tl_have (fun _ _ h => sl_have h) fun ⟨a, c, hv, _, _, hrd⟩ => ?_
        subst hv
        have hi8 : i < s.length := by omega
        refine tl_c rfl (o_call bd65 rfl (Put64_f _ a c (lb (s.take i)) s[i] hrd (hw _ (List.getElem_mem _)) (by rw [lb_length, List.length_take]; omega))) ?_; rintro u16 _ ⟨_, rfl, rfl⟩; refine tl_pre (fun _ _ h => h.drop2) ?_; refine tv (o_assign rfl) ?_; refine tl_nil ?_; refine q_block_n (q_then_n ?_); refine tc_reg ?_; refine tv adqz ?_; refine tv (o_move rfl) ?_; refine nq ?_; exact ⟨_, by omega, i + 1, u16, by omega, rfl, rfl, rfl, rfl, by rw [lb_take oqz, List.length_append, le_length]⟩
      · try simp only [lv1, lv2, lv3, lv4, lv5, lv6, Bool.not_true, Bool.not_false] at h
        refine tc_exit ?_; refine q_then_e (q_then_e (q_block_x (q_then_n ?_))); refine sr ?_; refine tv (o_move rfl) ?_; refine tv (o_assign rfl) ?_; refine nq ?_; refine tc_ret ?_
        obtain rfl : i = 8 := by omega
        have e : s.take 8 = s := List.take_of_length_le oqz
        rw [e, lb_length, hs8]
        exact ⟨v, _, res1 rfl rfl, fun _ _ h => h.drop2, v, rfl, rfl⟩
end Go.Vl

namespace Go.Vl
open Go Go.Proofs
section
variable {P : Program} {n : Nat} {ρ : Env} {A : SP} {dst : Option Tmp} {ty : TypeId} {pos : String} {after : Array Edge} {gd : Option (Nat × Bool)}
theorem o_quoN {t t' : TypeId} {x y : Operand} {a b : Nat} (hx : ev n ρ x = .int .i64 (a : Int)) (hy : ev n ρ y = .int .i64 (b : Int)) (h : 0 < b ∧ a ≤ 9223372036854775807) :
    OpV P n ρ A ⟨dst, .binOp .quo t x y t', ty, pos, after, gd⟩ (.int .i64 ((a / b : Nat) : Int)) := o_quoI hx hy oqz
theorem o_remN {t t' : TypeId} {x y : Operand} {k : IntKind} {a b : Nat} (hx : ev n ρ x = .int k (a : Int)) (hy : ev n ρ y = .int k (b : Int)) (h : 0 < b) :
    OpV P n ρ A ⟨dst, .binOp .rem t x y t', ty, pos, after, gd⟩ (.int k ((a % b : Nat) : Int)) := o_remI hx hy oqz
end
/-- What is seen of a line. -/
def seenL (l : LineS) : List Nat := l.st.getD (l.st.length - 1) []
def layL (k v : Nat) (l : LineS) : LineS := { l with st := l.st ++ [(seenL l).set k v] }
def onLine (f : LineS → LineS) (i : Nat) (s : DevS) : DevS := match s.ls[i]? with
  | some l => { s with ls := s.ls.set i (f l) }
  | none => s
theorem onLine_at {f : LineS → LineS} {i : Nat} {s : DevS} (h : i < s.ls.length) : onLine f i s = { s with ls := s.ls.set i (f s.ls[i]) } := by
  unfold onLine; rw [List.getElem?_eq_getElem h]
def layS (at_ v : Nat) (s : DevS) : DevS := onLine (layL (at_ % 64 / 8) v) (at_ / 64) s
/-- There is room for so many contents more in every line. -/
def Room (k : Nat) (s : DevS) : Prop := ∀ l ∈ s.ls, l.st.length + k ≤ 2199023255552
theorem seenL_eq {l : LineS} (h : 0 < l.st.length) : seenL l = l.st[l.st.length - 1] := by unfold seenL; rw [getD_at oqz]
theorem seenL_mem {l : LineS} (h : WfL l) : seenL l ∈ l.st := by
  have := List.length_pos_iff.2 h.ne
  rw [seenL_eq this]; exact List.getElem_mem _
theorem onLine_wf {f : LineS → LineS} {i : Nat} {s : DevS} (hw : WfD s) (h : ∀ l ∈ s.ls, WfL (f l)) : WfD (onLine f i s) := by
  unfold onLine
  cases e : s.ls[i]? with
  | none => exact hw
  | some l =>
    have hm := List.mem_of_getElem? e
    refine ⟨by simp; exact hw.pos, by simp; exact hw.top, fun x hx => ?_, hw.arms, hw.after, hw.keeps⟩
    rcases List.mem_or_eq_of_mem_set hx with h1 | rfl
    · exact hw.line x h1
    · exact h l hm
theorem layL_wf {k v : Nat} {l : LineS} (h : WfL l) (hr : l.st.length + 1 ≤ 2199023255552) (hv : v < 18446744073709551616) : WfL (layL k v l) := by
  have hm := seenL_mem h
  refine ⟨by simp [layL], ?_, h.lo, ?_, ?_, ?_⟩
  · intro x hx
    simp only [layL, List.mem_append, List.mem_singleton] at hx
    rcases hx with hx | rfl
    · exact h.eight x hx
    · rw [List.length_set]; exact h.eight _ hm
  · have := h.hi; simp only [layL, List.length_append, List.length_singleton]; omega
  · simpa [layL] using hr
  · intro x hx
    simp only [layL, List.mem_append, List.mem_singleton] at hx
    rcases hx with hx | rfl
    · exact h.words x hx
    · intro y hy
      rcases List.mem_or_eq_of_mem_set hy with h1 | rfl
      · exact h.words _ hm y h1
      · exact hv
theorem layS_wf {at_ v : Nat} {s : DevS} (hw : WfD s) (hr : Room 1 s) (hv : v < 18446744073709551616) : WfD (layS at_ v s) :=
  onLine_wf hw fun l hl => layL_wf (hw.line l hl) (hr l hl) hv
theorem wds_set (s : List Nat) (k v : Nat) : (wds s).set k (.int .u64 (v : Nat)) = wds (s.set k v) := by simp [wds, List.map_set]; rfl
theorem SP.drop_mid {g : Gh} {w : World} {X Y Z : SP} (h : sat g w (X * Y * Z)) : sat g w (X * Z) := h.drop2
theorem lay_f (F : SP) (d at_ v : Nat) (s : DevS) (hat : at_ / 64 < s.ls.length) (hv : v < 18446744073709551616) (hroom : Room 1 s) :
    Fn Tryz.prog 66 #[.pointer (some ⟨d, 0, none⟩), .int .i64 (at_ : Nat), .int .u64 (v : Nat)] (F * Dev d s) (fun r B => r = .int .i64 (doneE (layS at_ v s)) ∧ B = F * Dev d (doneS (layS at_ v s))) := by
  refine fn_enterW (args := [.pointer (some ⟨d, 0, none⟩), .int .i64 (at_ : Nat), .int .u64 (v : Nat)]) Tryz.func66 rfl Tryz.ntmps66 (by simp) ?_; refine tc_dev fun hw bl svs av kvs hsv hkv => ?_
  have hpos := hw.pos
  have htop := hw.top
  obtain ⟨R, hf1, hf2⟩ := devC_focus (d := d) (bl := bl) (kvs := kvs) (av := av) (s := s) hsv hat
  refine tc_eq (hf1 F) ?_; refine tc_have (fun _ _ h => sl_have' rfl h) fun ⟨a', c', hvv, hn', hl', hrd⟩ => ?_
  rw [hvv] at hrd ⊢
  have hwl : WfL s.ls[at_ / 64] := hw.line _ (List.getElem_mem _)
  have hlen : 0 < s.ls[at_ / 64].st.length := List.length_pos_iff.2 hwl.ne
  have hsm := hwl.small
  have hcell : (lcs svs s.ls)[0 + at_ / 64 * 2 + 0]? = some (.slice a' s.ls[at_ / 64].st.length c') := by rw [Nat.zero_add, Nat.add_zero, lcs_sv hsv oqz, hvv]
  have hrm := hroom _ (List.getElem_mem hat)
  have hs8 := hwl.eight _ (seenL_mem hwl)
  have hse := seenL_eq hlen
  refine sr ?_; refine tv (o_assign rfl) ?_; refine nq ?_; refine sr ?_; refine tv (o_move rfl) ?_; refine tv (o_nilCheck rfl) ?_; refine tv (o_fieldAddr (o := 0) Tryz.underlying64 rfl rfl sz62 rfl) ?_; refine tv (o_load p62 rfl sq5z rfl) ?_; refine tv (o_move rfl) ?_; refine tv (o_quoN (b := 64) rfl rfl oqz) ?_; refine tv (o_indexAddrN Tryz.underlying62 sz71 rfl rfl oqz) ?_; refine tv (o_assign rfl) ?_; refine nq ?_; refine sr ?_; refine tv (o_move rfl) ?_; refine tl_c rfl (o_call bd52 rfl (seen_f _ bl (0 + at_ / 64 * 2) c' a' s.ls[at_ / 64].st (cell_of_has sq5z hcell) hrd hwl.eight hlen hsm)) ?_; rintro _ _ ⟨rfl, rfl⟩; refine tl_env (d := 17) (v := .agg (wds (seenL s.ls[at_ / 64])).toArray) (by rw [hse]; rfl) ?_; refine tl_x rfl (o_alloc z68 rfl) ?_; rintro _ _ ⟨b8, rfl, rfl⟩; refine tl_u rfl (o_storeN (l' := wds (seenL s.ls[at_ / 64])) sz68 rfl rfl (by rw [wds_length]; exact hs8) (wds_all _) (by simp) (splice_all (by rw [wds_length, hs8]; rfl)) upd_here) ?_; refine nq ?_; refine sr ?_; refine tv (o_move rfl) ?_; refine tv (o_remN (b := 64) rfl rfl oqz) ?_; refine tv (o_quoN (b := 8) rfl rfl oqz) ?_
  refine tv (o_move rfl) ?_; refine tv (o_indexAddrAN1 Tryz.underlying68 sz66 rfl rfl oqz) ?_; refine tl_u rfl (o_store (l' := wds ((seenL s.ls[at_ / 64]).set (at_ % 64 / 8) v)) sz66 rfl rfl rfl (by rw [wds_length, hs8]; omega) (by rw [Nat.zero_add]; exact wds_set _ _ _) upd_here) ?_; refine nq ?_; refine tc_seq ?_; refine tc_rega mo ?_
  show TA _ _ _ _ 11 #[ff,ff,ff,ff,ff,ff,ff,ff,ff,ff,ff] _ _
  refine ta_pure (i := 0) (listed' := #[tt,ff,ff,ff,ff,ff,ff,ff,ff,ff,ff]) rfl kqz kqz kqz rfl rfl (o_move rfl) ?_; refine ta_pure (i := 1) (listed' := #[tt,tt,ff,ff,ff,ff,ff,ff,ff,ff,ff]) rfl kqz kqz kqz rfl rfl (o_move rfl) ?_; refine ta_pure (i := 2) (listed' := #[tt,tt,tt,ff,ff,ff,ff,ff,ff,ff,ff]) rfl kqz kqz kqz rfl rfl (o_nilCheck rfl) ?_; refine ta_pure (i := 3) (listed' := #[tt,tt,tt,tt,ff,ff,ff,ff,ff,ff,ff]) rfl kqz kqz kqz rfl rfl (o_fieldAddr (o := 0) Tryz.underlying71 rfl rfl sz69 rfl) ?_; refine ta_two (i := 4) (j := 5) kqz ?_ ?_
  · skip
    refine oa_v (i := 4) (listed' := #[tt,tt,tt,tt,tt,ff,ff,ff,ff,ff,ff]) rfl rfl rfl (o_load p69 rfl sq5z hcell) ?_; refine ta_one (i := 5) kqz ?_; refine oa_v (i := 5) (listed' := #[tt,tt,tt,tt,tt,tt,ff,ff,ff,ff,ff]) rfl rfl rfl (o_loadNC (vs := wds ((seenL s.ls[at_ / 64]).set (at_ % 64 / 8) v)) a68 sz68 rfl (by rw [wds_length, List.length_set]; exact hs8) (cells_all (k := 8) sq5z (by rw [wds_length, List.length_set]; exact hs8))) ?_; refine ta_one (i := 6) kqz ?_; refine oa_x (i := 6) (listed' := #[tt,tt,tt,tt,tt,tt,tt,ff,ff,ff,ff]) rfl rfl rfl (o_buildSliceK Tryz.underlying69 sz68 z68 rfl (by rw [wds_length, List.length_set]; exact hs8) (by decide)) ?_; rintro _ _ ⟨b29, rfl, rfl⟩; refine ta_eq (A' := F * R * pt bl (cl (lcs svs s.ls) 71) * pt d (cl (dcs bl s.ls.length s av) 64) * pt b8 (cl (wds ((seenL s.ls[at_ / 64]).set (at_ % 64 / 8) v)) 68) * Sl 8 (.slice a' s.ls[at_ / 64].st.length c') s.ls[at_ / 64].st.length (stc s.ls[at_ / 64].st) * pt b29 (cl (wds ((seenL s.ls[at_ / 64]).set (at_ % 64 / 8) v)) 68)) (by ac_rfl) ?_; refine ta_one (i := 7) kqz ?_; refine oa_x (i := 7) (listed' := #[tt,tt,tt,tt,tt,tt,tt,tt,ff,ff,ff]) rfl rfl rfl (o_append1 Tryz.underlying69 Tryz.underlying69 sz68 by68 z68 rfl (by decide) (by decide) rfl rfl rfl (by rw [wds_length, List.length_set]; omega) (wds_all _) oqz) ?_
    rintro u30 _ rfl; refine ta_have (fun _ _ h => sl_have h) fun ⟨_, _, hu, _, _, _⟩ => ?_
    have hu1 : oneC u30 = true := by rw [hu]; rfl
    refine ta_pure (i := 8) (listed' := #[tt,tt,tt,tt,tt,tt,tt,tt,tt,ff,ff]) rfl kqz kqz kqz rfl rfl (o_nilCheck rfl) ?_; refine ta_pure (i := 9) (listed' := #[tt,tt,tt,tt,tt,tt,tt,tt,tt,tt,ff]) rfl kqz kqz kqz rfl rfl (o_fieldAddr (o := 0) Tryz.underlying71 rfl rfl sz69 rfl) ?_; refine ta_one (i := 10) kqz ?_; refine oa_u (i := 10) (listed' := #[tt,tt,tt,tt,tt,tt,tt,tt,tt,tt,tt]) rfl rfl rfl (o_store (l := lcs svs s.ls) (l' := lcs (svs.set (at_ / 64) u30) (s.ls.set (at_ / 64) (layL (at_ % 64 / 8) v s.ls[at_ / 64]))) sz69 rfl rfl hu1 (by rw [lcs_length hsv]; omega) (by rw [Nat.zero_add, Nat.add_zero]; exact lcs_set_sv (layL (at_ % 64 / 8) v s.ls[at_ / 64]) hsv hat rfl) sq8z) ?_; refine ta_done kqz ?_; refine q_then_n ?_; refine sr ?_; refine tv (o_move rfl) ?_
    have hLL : (layL (at_ % 64 / 8) v s.ls[at_ / 64]).st.length = s.ls[at_ / 64].st.length + 1 := by simp [layL]
    have hLS : stc (layL (at_ % 64 / 8) v s.ls[at_ / 64]).st = stc s.ls[at_ / 64].st ++ wds ((seenL s.ls[at_ / 64]).set (at_ % 64 / 8) v) := by simp only [layL]; rw [stc_append, stc_one]
    have hfin := hf2 F u30 (layL (at_ % 64 / 8) v s.ls[at_ / 64])
    rw [hLL, hLS, ← onLine_at (f := layL (at_ % 64 / 8) v) hat] at hfin
    refine tl_pre (fun _ _ h => SP.drop_mid h) ?_; refine tl_eq hfin ?_; refine tl_pre (dev_back (s := layS at_ v s) (layS_wf hw hroom hv) (by unfold layS; rw [onLine_at hat]; simp [hsv]) (by unfold layS; rw [onLine_at hat]; exact hkv)) ?_; refine tl_c rfl (o_call bd80 rfl (done_f F d (layS at_ v s))) ?_; rintro _ _ ⟨rfl, rfl⟩; refine tv (o_assign rfl) ?_; refine nq ?_; refine tc_ret ?_; exact ⟨_, _, res1 rfl rfl, fun _ _ h => h, rfl, rfl⟩
  · skip
    refine oa_v (i := 5) (listed' := #[tt,tt,tt,tt,ff,tt,ff,ff,ff,ff,ff]) rfl rfl rfl (o_loadNC (vs := wds ((seenL s.ls[at_ / 64]).set (at_ % 64 / 8) v)) a68 sz68 rfl (by rw [wds_length, List.length_set]; exact hs8) (cells_all (k := 8) sq5z (by rw [wds_length, List.length_set]; exact hs8))) ?_; refine ta_two (i := 4) (j := 6) kqz ?_ ?_
    · skip
      refine oa_v (i := 4) (listed' := #[tt,tt,tt,tt,tt,tt,ff,ff,ff,ff,ff]) rfl rfl rfl (o_load p69 rfl sq5z hcell) ?_; refine ta_one (i := 6) kqz ?_; refine oa_x (i := 6) (listed' := #[tt,tt,tt,tt,tt,tt,tt,ff,ff,ff,ff]) rfl rfl rfl (o_buildSliceK Tryz.underlying69 sz68 z68 rfl (by rw [wds_length, List.length_set]; exact hs8) (by decide)) ?_; rintro _ _ ⟨b29, rfl, rfl⟩; refine ta_eq (A' := F * R * pt bl (cl (lcs svs s.ls) 71) * pt d (cl (dcs bl s.ls.length s av) 64) * pt b8 (cl (wds ((seenL s.ls[at_ / 64]).set (at_ % 64 / 8) v)) 68) * Sl 8 (.slice a' s.ls[at_ / 64].st.length c') s.ls[at_ / 64].st.length (stc s.ls[at_ / 64].st) * pt b29 (cl (wds ((seenL s.ls[at_ / 64]).set (at_ % 64 / 8) v)) 68)) (by ac_rfl) ?_; refine ta_one (i := 7) kqz ?_; refine oa_x (i := 7) (listed' := #[tt,tt,tt,tt,tt,tt,tt,tt,ff,ff,ff]) rfl rfl rfl (o_append1 Tryz.underlying69 Tryz.underlying69 sz68 by68 z68 rfl (by decide) (by decide) rfl rfl rfl (by rw [wds_length, List.length_set]; omega) (wds_all _) oqz) ?_; rintro u30 _ rfl; refine ta_have (fun _ _ h => sl_have h) fun ⟨_, _, hu, _, _, _⟩ => ?_
      have hu1 : oneC u30 = true := by rw [hu]; rfl
      refine ta_pure (i := 8) (listed' := #[tt,tt,tt,tt,tt,tt,tt,tt,tt,ff,ff]) rfl kqz kqz kqz rfl rfl (o_nilCheck rfl) ?_; refine ta_pure (i := 9) (listed' := #[tt,tt,tt,tt,tt,tt,tt,tt,tt,tt,ff]) rfl kqz kqz kqz rfl rfl (o_fieldAddr (o := 0) Tryz.underlying71 rfl rfl sz69 rfl) ?_; refine ta_one (i := 10) kqz ?_; refine oa_u (i := 10) (listed' := #[tt,tt,tt,tt,tt,tt,tt,tt,tt,tt,tt]) rfl rfl rfl (o_store (l := lcs svs s.ls) (l' := lcs (svs.set (at_ / 64) u30) (s.ls.set (at_ / 64) (layL (at_ % 64 / 8) v s.ls[at_ / 64]))) sz69 rfl rfl hu1 (by rw [lcs_length hsv]; omega) (by rw [Nat.zero_add, Nat.add_zero]; exact lcs_set_sv (layL (at_ % 64 / 8) v s.ls[at_ / 64]) hsv hat rfl) sq8z) ?_; refine ta_done kqz ?_; refine q_then_n ?_; refine sr ?_; refine tv (o_move rfl) ?_
      have hLL : (layL (at_ % 64 / 8) v s.ls[at_ / 64]).st.length = s.ls[at_ / 64].st.length + 1 := by simp [layL]
      have hLS : stc (layL (at_ % 64 / 8) v s.ls[at_ / 64]).st = stc s.ls[at_ / 64].st ++ wds ((seenL s.ls[at_ / 64]).set (at_ % 64 / 8) v) := by simp only [layL]; rw [stc_append, stc_one]
      have hfin := hf2 F u30 (layL (at_ % 64 / 8) v s.ls[at_ / 64])
      rw [hLL, hLS, ← onLine_at (f := layL (at_ % 64 / 8) v) hat] at hfin
      refine tl_pre (fun _ _ h => SP.drop_mid h) ?_; refine tl_eq hfin ?_; refine tl_pre (dev_back (s := layS at_ v s) (layS_wf hw hroom hv) (by unfold layS; rw [onLine_at hat]; simp [hsv]) (by unfold layS; rw [onLine_at hat]; exact hkv)) ?_; refine tl_c rfl (o_call bd80 rfl (done_f F d (layS at_ v s))) ?_; rintro _ _ ⟨rfl, rfl⟩; refine tv (o_assign rfl) ?_; refine nq ?_; refine tc_ret ?_; exact ⟨_, _, res1 rfl rfl, fun _ _ h => h, rfl, rfl⟩
    · skip
      refine oa_x (i := 6) (listed' := #[tt,tt,tt,tt,ff,tt,tt,ff,ff,ff,ff]) rfl rfl rfl (o_buildSliceK Tryz.underlying69 sz68 z68 rfl (by rw [wds_length, List.length_set]; exact hs8) (by decide)) ?_; rintro _ _ ⟨b29, rfl, rfl⟩; refine ta_eq (A' := F * R * pt bl (cl (lcs svs s.ls) 71) * pt d (cl (dcs bl s.ls.length s av) 64) * pt b8 (cl (wds ((seenL s.ls[at_ / 64]).set (at_ % 64 / 8) v)) 68) * Sl 8 (.slice a' s.ls[at_ / 64].st.length c') s.ls[at_ / 64].st.length (stc s.ls[at_ / 64].st) * pt b29 (cl (wds ((seenL s.ls[at_ / 64]).set (at_ % 64 / 8) v)) 68)) (by ac_rfl) ?_; refine ta_one (i := 4) kqz ?_; refine oa_v (i := 4) (listed' := #[tt,tt,tt,tt,tt,tt,tt,ff,ff,ff,ff]) rfl rfl rfl (o_load p69 rfl sq5z hcell) ?_; refine ta_one (i := 7) kqz ?_; refine oa_x (i := 7) (listed' := #[tt,tt,tt,tt,tt,tt,tt,tt,ff,ff,ff]) rfl rfl rfl (o_append1 Tryz.underlying69 Tryz.underlying69 sz68 by68 z68 rfl (by decide) (by decide) rfl rfl rfl (by rw [wds_length, List.length_set]; omega) (wds_all _) oqz) ?_; rintro u30 _ rfl; refine ta_have (fun _ _ h => sl_have h) fun ⟨_, _, hu, _, _, _⟩ => ?_
      have hu1 : oneC u30 = true := by rw [hu]; rfl
      refine ta_pure (i := 8) (listed' := #[tt,tt,tt,tt,tt,tt,tt,tt,tt,ff,ff]) rfl kqz kqz kqz rfl rfl (o_nilCheck rfl) ?_; refine ta_pure (i := 9) (listed' := #[tt,tt,tt,tt,tt,tt,tt,tt,tt,tt,ff]) rfl kqz kqz kqz rfl rfl (o_fieldAddr (o := 0) Tryz.underlying71 rfl rfl sz69 rfl) ?_; refine ta_one (i := 10) kqz ?_; refine oa_u (i := 10) (listed' := #[tt,tt,tt,tt,tt,tt,tt,tt,tt,tt,tt]) rfl rfl rfl (o_store (l := lcs svs s.ls) (l' := lcs (svs.set (at_ / 64) u30) (s.ls.set (at_ / 64) (layL (at_ % 64 / 8) v s.ls[at_ / 64]))) sz69 rfl rfl hu1 (by rw [lcs_length hsv]; omega) (by rw [Nat.zero_add, Nat.add_zero]; exact lcs_set_sv (layL (at_ % 64 / 8) v s.ls[at_ / 64]) hsv hat rfl) sq8z) ?_; refine ta_done kqz ?_; refine q_then_n ?_; refine sr ?_; refine tv (o_move rfl) ?_
      have hLL : (layL (at_ % 64 / 8) v s.ls[at_ / 64]).st.length = s.ls[at_ / 64].st.length + 1 := by simp [layL]
      have hLS : stc (layL (at_ % 64 / 8) v s.ls[at_ / 64]).st = stc s.ls[at_ / 64].st ++ wds ((seenL s.ls[at_ / 64]).set (at_ % 64 / 8) v) := by simp only [layL]; rw [stc_append, stc_one]
      have hfin := hf2 F u30 (layL (at_ % 64 / 8) v s.ls[at_ / 64])
      rw [hLL, hLS, ← onLine_at (f := layL (at_ % 64 / 8) v) hat] at hfin
      refine tl_pre (fun _ _ h => SP.drop_mid h) ?_; refine tl_eq hfin ?_; refine tl_pre (dev_back (s := layS at_ v s) (layS_wf hw hroom hv) (by unfold layS; rw [onLine_at hat]; simp [hsv]) (by unfold layS; rw [onLine_at hat]; exact hkv)) ?_; refine tl_c rfl (o_call bd80 rfl (done_f F d (layS at_ v s))) ?_; rintro _ _ ⟨rfl, rfl⟩; refine tv (o_assign rfl) ?_; refine nq ?_; refine tc_ret ?_; exact ⟨_, _, res1 rfl rfl, fun _ _ h => h, rfl, rfl⟩
/-- What Store8 answers, and the device behind it. -/
def st8 (p : Int) (v : Nat) (s : DevS) : Int × DevS :=
  if rdy s.ls.length s.off p 8 ≠ 0 then (rdy s.ls.length s.off p 8, s) else if p % 8 ≠ 0 then (6, s) else (doneE (layS p.toNat v s), doneS (layS p.toNat v s))
theorem rdy0 {n : Nat} {off : Bool} {p m : Int} (h : rdy n off p m = 0) : off = false ∧ 0 ≤ p ∧ 0 ≤ m ∧ p + m ≤ (n : Int) * 64 := by
  unfold rdy at h
  split at h
  · exact absurd h oqz
  · rename_i ho
    split at h
    · exact absurd h oqz
    · exact ⟨by simpa using ho, by omega, by omega, by omega⟩
theorem Store8_f (F : SP) (d v : Nat) (p : Int) (s : DevS) (hp : -9223372036854775808 ≤ p ∧ p ≤ 9223372036854775807) (hv : v < 18446744073709551616) (hroom : Room 1 s) :
    Fn Tryz.prog 49 #[.pointer (some ⟨d, 0, none⟩), .int .i64 p, .int .u64 (v : Nat)] (F * Dev d s) (fun r B => r = .int .i64 (st8 p v s).1 ∧ B = F * Dev d (st8 p v s).2) := by
  refine fn_enterW (args := [.pointer (some ⟨d, 0, none⟩), .int .i64 p, .int .u64 (v : Nat)]) Tryz.func49 rfl Tryz.ntmps49 (by simp) ?_; refine tc_dev fun hw bl svs av kvs hsv hkv => ?_
  have hpos := hw.pos
  have htop := hw.top
  refine sr ?_; refine tv (o_assign rfl) ?_; refine nq ?_; refine tc_seq ?_; refine sr ?_; refine tv (o_move rfl) ?_; refine tv (o_move rfl) ?_; refine tl_c rfl (o_call bd64 rfl (ready_f _ d bl s.ls.length s av dev_cells hpos htop p 8 hp oqz)) ?_; rintro _ _ ⟨rfl, rfl⟩; refine tv (o_assign rfl) ?_; refine nq ?_; refine sr ?_; refine tv (o_move rfl) ?_; refine tv (o_nei rfl rfl) ?_; refine nq ?_; refine tc_cond rfl (fun h => ?_) (fun h => ?_)
  · try simp only [lv1, lv2, lv3, lv4, lv5, lv6, Bool.not_true, Bool.not_false] at h
    refine sr ?_; refine tv (o_move rfl) ?_; refine tv (o_assign rfl) ?_; refine nq ?_; refine tc_ret ?_; refine q_then_r ?_; exact ⟨.int .i64 (rdy s.ls.length s.off p 8), _, res1 rfl rfl, dev_back hw hsv hkv, by unfold st8; rw [if_pos h], by unfold st8; rw [if_pos h]⟩
  · simp only [bne_iff_ne, ne_eq, decide_eq_false_iff_not, Bool.not_eq_false', Bool.not_eq_true', decide_eq_true_eq] at h
    have hr0 := rdy0 (show rdy s.ls.length s.off p 8 = 0 by omega)
    obtain ⟨q, rfl⟩ := Int.eq_ofNat_of_zero_le hr0.2.1
    refine tc_skip ?_; refine q_then_n ?_; refine tc_seq ?_; refine sr ?_; refine tv (o_move rfl) ?_; refine tv (o_remI rfl rfl oqz) ?_; refine tv (o_nei rfl rfl) ?_; refine nq ?_; refine tc_cond rfl (fun h => ?_) (fun h => ?_)
    · try simp only [lv1, lv2, lv3, lv4, lv5, lv6, Bool.not_true, Bool.not_false] at h
      refine sr ?_; refine tv (o_assign rfl) ?_; refine nq ?_; refine tc_ret ?_; refine q_then_r ?_; exact ⟨.int .i64 6, _, res1 rfl rfl, dev_back hw hsv hkv, by unfold st8; rw [if_neg oqz, if_pos oqz], by unfold st8; rw [if_neg oqz, if_pos oqz]⟩
    · try simp only [lv1, lv2, lv3, lv4, lv5, lv6, Bool.not_true, Bool.not_false] at h
      refine tc_skip ?_; refine q_then_n ?_; refine sr ?_; refine tv (o_move rfl) ?_; refine tv (o_move rfl) ?_; refine tv (o_move rfl) ?_; refine tl_pre (dev_back hw hsv hkv) ?_; refine tl_c rfl (o_call bd66 rfl (lay_f F d q v s oqz hv hroom)) ?_; rintro _ _ ⟨rfl, rfl⟩; refine tv (o_assign rfl) ?_; refine nq ?_; refine tc_ret ?_; exact ⟨_, _, res1 rfl rfl, fun _ _ h => h, by unfold st8; rw [if_neg oqz, if_neg oqz]; rfl, by unfold st8; rw [if_neg oqz, if_neg oqz]; rfl⟩
end Go.Vl

namespace Go.Vl
open Go Go.Proofs
theorem cut_lt {b o c l k : Nat} (h : l < c) : cutAddr (some ⟨b, o, none⟩) c l k = some ⟨b, o + l * k, none⟩ := by
  unfold cutAddr; rw [if_neg oqz]; simp [addr_add]
def flushL (l : LineS) : LineS := { l with mark := (l.st.length : Int) - 1 }
def flushS (p : Nat) (s : DevS) : DevS := onLine flushL (p / 64) s
theorem flushL_wf {l : LineS} (h : WfL l) : WfL (flushL l) := by
  have := List.length_pos_iff.2 h.ne
  exact ⟨h.ne, h.eight, by simp only [flushL]; omega, by simp only [flushL]; omega, h.small, h.words⟩
theorem flushS_wf {p : Nat} {s : DevS} (hw : WfD s) : WfD (flushS p s) := onLine_wf hw fun l hl => flushL_wf (hw.line l hl)
/-- What Flush answers, and the device behind it. -/
def fl1 (p : Int) (s : DevS) : Int × DevS :=
  if rdy s.ls.length s.off p 1 ≠ 0 then (rdy s.ls.length s.off p 1, s) else (doneE (flushS p.toNat s), doneS (flushS p.toNat s))
/-- The first lines are changed. -/
def mp (f : LineS → LineS) (i : Nat) (ls : List LineS) : List LineS := ls.mapIdx fun j l => if j < i then f l else l
theorem mp_length (f i ls) : (mp f i ls).length = ls.length := by simp [mp]
theorem mp_zero (f) (ls : List LineS) : mp f 0 ls = ls := by
  apply List.ext_getElem?
  intro j; simp [mp, List.getElem?_mapIdx]
theorem mp_at (f) {i : Nat} {ls : List LineS} (hi : i < ls.length) : (mp f i ls)[i]'(by rw [mp_length]; exact hi) = ls[i] := by simp [mp]
theorem mp_set (f) {i : Nat} {ls : List LineS} (hi : i < ls.length) : (mp f i ls).set i (f ls[i]) = mp f (i + 1) ls := by
  apply List.ext_getElem?
  intro j
  by_cases hj : j = i
  · subst hj
    rw [List.getElem?_set_self (by rw [mp_length]; exact hi)]
    simp [mp, List.getElem?_mapIdx, hi]
  · rw [List.getElem?_set_ne (Ne.symm hj)]
    simp only [mp, List.getElem?_mapIdx]
    by_cases hlt : j < i
    · simp [hlt, show j < i + 1 by omega]
    · simp [hlt, show ¬ j < i + 1 by omega]
theorem mp_same (f) {i : Nat} {ls : List LineS} (hi : i < ls.length) (he : f ls[i] = ls[i]) : mp f (i + 1) ls = mp f i ls := by
  rw [← mp_set f hi, he]
  have := set_getElem (l := mp f i ls) (i := i) (by rw [mp_length]; exact hi)
  rwa [mp_at f hi] at this
theorem mp_map (f) (ls : List LineS) : mp f ls.length ls = ls.map f := by
  apply List.ext_getElem?
  intro j
  simp only [mp, List.getElem?_mapIdx, List.getElem?_map]
  rcases Nat.lt_or_ge j ls.length with h | h
  · simp [h]
  · simp [h]
def fenceL (l : LineS) : LineS := if 0 ≤ l.mark then ⟨l.st.drop l.mark.toNat, -1⟩ else l
def fenceS (s : DevS) : DevS := { s with ls := s.ls.map fenceL }
theorem fenceL_wf {l : LineS} (h : WfL l) : WfL (fenceL l) := by
  unfold fenceL
  split
  · have := h.hi
    refine ⟨by simp only [ne_eq, List.drop_eq_nil_iff]; omega, fun x hx => h.eight x (List.mem_of_mem_drop hx), by simp, by simp only []; omega, ?_, fun x hx => h.words x (List.mem_of_mem_drop hx)⟩
    have := h.small
    simp only [List.length_drop]; omega
  · exact h
theorem fenceS_wf {s : DevS} (hw : WfD s) : WfD (fenceS s) := ⟨by simp [fenceS]; exact hw.pos, by simp [fenceS]; exact hw.top, fun l hl => by
  simp only [fenceS, List.mem_map] at hl
  obtain ⟨m, hm, rfl⟩ := hl
  exact fenceL_wf (hw.line m hm), hw.arms, hw.after, hw.keeps⟩
/-- What Fence answers, and the device behind it. -/
def fe (s : DevS) : Int × DevS := if s.off then (5, s) else (doneE (fenceS s), doneS (fenceS s))
theorem rdy00 {n : Nat} {off : Bool} : rdy n off 0 0 = if off then 5 else 0 := by
  unfold rdy
  split
  · rfl
  · rw [if_neg oqz]
theorem Flush_f (F : SP) (d : Nat) (p : Int) (s : DevS) (hp : -9223372036854775808 ≤ p ∧ p ≤ 9223372036854775807) :
    Fn Tryz.prog 38 #[.pointer (some ⟨d, 0, none⟩), .int .i64 p] (F * Dev d s) (fun r B => r = .int .i64 (fl1 p s).1 ∧ B = F * Dev d (fl1 p s).2) := by
  refine fn_enterW (args := [.pointer (some ⟨d, 0, none⟩), .int .i64 p]) Tryz.func38 rfl Tryz.ntmps38 (by simp) ?_; refine tc_dev fun hw bl svs av kvs hsv hkv => ?_
  have hpos := hw.pos
  have htop := hw.top
  refine sr ?_; refine tv (o_assign rfl) ?_; refine nq ?_; refine tc_seq ?_; refine sr ?_; refine tv (o_move rfl) ?_; refine tv (o_move rfl) ?_; refine tl_c rfl (o_call bd64 rfl (ready_f _ d bl s.ls.length s av dev_cells hpos htop p 1 hp oqz)) ?_; rintro _ _ ⟨rfl, rfl⟩; refine tv (o_assign rfl) ?_; refine nq ?_; refine sr ?_; refine tv (o_move rfl) ?_; refine tv (o_nei rfl rfl) ?_; refine nq ?_; refine tc_cond rfl (fun h => ?_) (fun h => ?_)
  · try simp only [lv1, lv2, lv3, lv4, lv5, lv6, Bool.not_true, Bool.not_false] at h
    refine sr ?_; refine tv (o_move rfl) ?_; refine tv (o_assign rfl) ?_; refine nq ?_; refine tc_ret ?_; refine q_then_r ?_; exact ⟨.int .i64 (rdy s.ls.length s.off p 1), _, res1 rfl rfl, dev_back hw hsv hkv, by unfold fl1; rw [if_pos h], by unfold fl1; rw [if_pos h]⟩
  · simp only [bne_iff_ne, ne_eq, decide_eq_false_iff_not, Bool.not_eq_false', Bool.not_eq_true', decide_eq_true_eq] at h
    have hr0 := rdy0 (show rdy s.ls.length s.off p 1 = 0 by omega)
    obtain ⟨q, rfl⟩ := Int.eq_ofNat_of_zero_le hr0.2.1
    have hat : q / 64 < s.ls.length := by omega
    obtain ⟨R, hf1, hf2⟩ := devC_focus (d := d) (bl := bl) (kvs := kvs) (av := av) (s := s) hsv hat
    refine tc_eq (hf1 F) ?_; refine tc_have (fun _ _ h => sl_have' rfl h) fun ⟨a', c', hvv, hn', hl', hrd⟩ => ?_
    have hwl : WfL s.ls[q / 64] := hw.line _ (List.getElem_mem _)
    have hlen : 0 < s.ls[q / 64].st.length := List.length_pos_iff.2 hwl.ne
    have hsm := hwl.small
    have hcell : (lcs svs s.ls)[0 + q / 64 * 2 + 0]? = some (.slice a' s.ls[q / 64].st.length c') := by rw [Nat.zero_add, Nat.add_zero, lcs_sv hsv oqz, hvv]
    refine tc_skip ?_; refine q_then_n ?_; refine sr ?_; refine tv (o_move rfl) ?_; refine tv (o_nilCheck rfl) ?_; refine tv (o_fieldAddr (o := 0) Tryz.underlying64 rfl rfl sz62 rfl) ?_; refine tv (o_load p62 rfl sq5z rfl) ?_; refine tv (o_move rfl) ?_; refine tv (o_quoN (a := q) (b := 64) rfl rfl oqz) ?_; refine tv (o_indexAddrN Tryz.underlying62 sz71 rfl rfl oqz) ?_; refine tv (o_assign rfl) ?_; refine nq ?_; refine sr ?_; refine tv (o_move rfl) ?_; refine tv (o_move rfl) ?_; refine tv (o_nilCheck rfl) ?_; refine tv (o_fieldAddr (o := 0) Tryz.underlying71 rfl rfl sz69 rfl) ?_; refine tv (o_load p69 rfl sq5z hcell) ?_; refine tv (o_len Tryz.underlying69 rfl) ?_; refine tv (by first | exact o_subI rfl rfl oqz | exact o_sub rfl rfl) ?_; refine tv (o_nilCheck rfl) ?_; refine tv (o_fieldAddr (o := 1) Tryz.underlying71 rfl rfl sz3 rfl) ?_; refine tl_u rfl (o_store (l := lcs svs s.ls) (l' := lcs svs (s.ls.set (q / 64) (flushL s.ls[q / 64]))) sz3 rfl rfl rfl (by rw [lcs_length hsv]; omega) (by rw [Nat.zero_add]; exact lcs_set_mark (flushL s.ls[q / 64]) hsv hat) sq8z) ?_
    refine nq ?_; refine sr ?_; refine tv (o_move rfl) ?_
    have hfin := hf2 F svs[q / 64] (flushL s.ls[q / 64])
    rw [set_getElem oqz, ← onLine_at (f := flushL) hat] at hfin
    refine tl_eq hfin ?_; refine tl_pre (dev_back (s := flushS q s) (flushS_wf hw) (by unfold flushS; rw [onLine_at hat]; simp [hsv]) (by unfold flushS; rw [onLine_at hat]; exact hkv)) ?_; refine tl_c rfl (o_call bd80 rfl (done_f F d (flushS q s))) ?_; rintro _ _ ⟨rfl, rfl⟩; refine tv (o_assign rfl) ?_; refine nq ?_; refine tc_ret ?_; exact ⟨.int .i64 (doneE (flushS q s)), _, res1 rfl rfl, fun _ _ h => h, by unfold fl1; rw [if_neg oqz]; rfl, by unfold fl1; rw [if_neg oqz]; rfl⟩
theorem Crash_f (F : SP) (d c : Nat) (s : DevS) (a : Option Addr) (keep : List Int) (hr : Rd F a (ints keep)) (hk : ∀ k ∈ keep, k ≤ 9223372036854775807) (hkl : keep.length ≤ 17592186044416) :
    Fn Tryz.prog 42 #[.pointer (some ⟨d, 0, none⟩), .slice a keep.length c] (F * Dev d s) (fun r B => r = .int .i64 (if s.off then 5 else if lowB keep then 2 else 0) ∧ B = F * Dev d (if s.off then s else if lowB keep then s else goesS keep s)) := by
  refine fn_enterW (args := [.pointer (some ⟨d, 0, none⟩), .slice a keep.length c]) Tryz.func42 rfl Tryz.ntmps42 (by simp) ?_; refine tc_dev fun hw bl svs av kvs hsv hkv => ?_
  have hpos := hw.pos
  have htop := hw.top
  refine sr ?_; refine tv (o_assign rfl) ?_; refine nq ?_; refine tc_seq ?_; refine sr ?_; refine tv (o_move rfl) ?_; refine tl_c rfl (o_call bd64 rfl (ready_f _ d bl s.ls.length s av dev_cells hpos htop 0 0 oqz oqz)) ?_; rintro _ _ ⟨rfl, rfl⟩; refine tv (o_assign rfl) ?_; refine nq ?_; refine sr ?_; refine tv (o_move rfl) ?_; refine tv (o_nei rfl rfl) ?_; refine nq ?_; refine tc_cond rfl (fun h => ?_) (fun h => ?_)
  · rw [rdy00] at h
    have ho : s.off = true := by
      cases ho : s.off with
      | true => rfl
      | false => rw [ho] at h; simp at h
    refine sr ?_; refine tv (o_move rfl) ?_; refine tv (o_assign rfl) ?_; refine nq ?_; refine tc_ret ?_; refine q_then_r ?_; exact ⟨.int .i64 5, _, res1 rfl (by show Value.int .i64 (rdy _ _ _ _) = _; rw [rdy00, ho]; rfl), dev_back hw hsv hkv, by rw [ho]; rfl, by rw [ho]; rfl⟩
  · rw [rdy00] at h
    have ho : s.off = false := by
      cases ho : s.off with
      | false => rfl
      | true => rw [ho] at h; simp at h
    refine tc_skip ?_; refine q_then_n ?_; refine tc_seq ?_; refine sr ?_; refine tv (o_move rfl) ?_; refine tl_c rfl (o_call bd83 rfl (low_f _ a c keep hr.left oqz)) ?_; rintro _ _ ⟨rfl, rfl⟩; refine nq ?_; refine tc_cond rfl (fun h => ?_) (fun h => ?_)
    · try simp only [lv1, lv2, lv3, lv4, lv5, lv6, Bool.not_true, Bool.not_false] at h
      refine sr ?_; refine tv (o_assign rfl) ?_; refine nq ?_; refine tc_ret ?_; refine q_then_r ?_; exact ⟨.int .i64 2, _, res1 rfl rfl, dev_back hw hsv hkv, by rw [ho, h]; rfl, by rw [ho, h]; rfl⟩
    · try simp only [lv1, lv2, lv3, lv4, lv5, lv6, Bool.not_true, Bool.not_false] at h
      refine tc_skip ?_; refine q_then_n ?_; refine sr ?_; refine tv (o_move rfl) ?_; refine tv (o_move rfl) ?_; refine tl_pre (dev_back hw hsv hkv) ?_
      have hk2 : ∀ k ∈ keep, 0 ≤ k ∧ k ≤ 9223372036854775807 := fun k hm => ⟨by
        rcases Int.lt_or_le k 0 with h1 | h1
        · exfalso; unfold lowB at h; rw [List.any_eq_false] at h; exact h k hm (by simpa using h1)
        · exact h1, hk k hm⟩
      refine tl_c rfl (o_call bd84 rfl (goes_f F d c s a keep hr hk2 hkl)) ?_; rintro _ _ ⟨rfl, rfl⟩; refine nq ?_; refine sr ?_; refine tv (o_assign rfl) ?_; refine nq ?_; refine tc_ret ?_; exact ⟨.int .i64 0, _, res1 rfl rfl, fun _ _ h => h, by rw [ho, h]; rfl, by rw [ho, h]; rfl⟩
theorem Wake_f (F : SP) (d : Nat) (s : DevS) :
    Fn Tryz.prog 45 #[.pointer (some ⟨d, 0, none⟩)] (F * Dev d s) (fun r B => r = .int .i64 (if s.off then 0 else 3) ∧ B = F * Dev d { s with off := false }) := by
  refine fn_enterW (args := [.pointer (some ⟨d, 0, none⟩)]) Tryz.func45 rfl Tryz.ntmps45 (by simp) ?_; refine tc_dev fun hw bl svs av kvs hsv hkv => ?_
  have hpos := hw.pos
  have htop := hw.top
  refine sr ?_; refine tv (o_assign rfl) ?_; refine nq ?_; refine tc_seq ?_; refine tc_block ?_; refine sr ?_; refine tv (o_move rfl) ?_; refine tl_c rfl (o_call bd51 rfl (none_f _ d bl s.ls.length s av dev_cells hpos htop)) ?_; rintro _ _ ⟨rfl, rfl⟩; refine tv (o_assign rfl) ?_; refine nq ?_; refine tc_cond rfl (fun h => ?_) (fun h => ?_)
  · (exfalso; first | (revert h; simp; done) | (revert h; simp; omega) | (simp at h; omega) | omega)
  · try simp only [lv1, lv2, lv3, lv4, lv5, lv6, Bool.not_true, Bool.not_false] at h
    refine sr ?_; refine tv (o_move rfl) ?_; refine tv (o_nilCheck rfl) ?_; refine tv (o_fieldAddr (o := 4) Tryz.underlying64 rfl rfl sz4 rfl) ?_; refine tv (o_load p4 rfl devC_d rfl) ?_; refine tv (o_not rfl) ?_; refine tv (o_assign rfl) ?_; refine nq ?_; refine tc_cond rfl (fun h => ?_) (fun h => ?_)
    · try simp only [lv1, lv2, lv3, lv4, lv5, lv6, Bool.not_true, Bool.not_false] at h
      refine sr ?_; refine tv (o_assign rfl) ?_; refine nq ?_; refine tc_ret ?_; refine q_block_r (q_then_r ?_)
      have ho : s.off = false := by simpa using h
      exact ⟨.int .i64 3, _, res1 rfl rfl, dev_back hw hsv hkv, by rw [ho]; rfl, by rw [show ({ s with off := false } : DevS) = s by rw [← ho]]⟩
    · try simp only [lv1, lv2, lv3, lv4, lv5, lv6, Bool.not_true, Bool.not_false] at h
      refine tc_skip ?_; refine q_block_n (q_then_n ?_); refine sr ?_; refine tv (o_move rfl) ?_; refine tv (o_nilCheck rfl) ?_; refine tv (o_fieldAddr (o := 4) Tryz.underlying64 rfl rfl sz4 rfl) ?_; refine tl_u rfl (o_store sz4 rfl rfl rfl (by show 4 < 5; decide) rfl (devC_upd s.ops s.cnt false)) ?_; refine nq ?_; refine sr ?_; refine tv (o_assign rfl) ?_; refine nq ?_; refine tc_ret ?_
      have ho : s.off = true := by simpa using h
      exact ⟨.int .i64 0, _, res1 rfl rfl, dev_back (s := { s with off := false }) ⟨hw.pos, hw.top, hw.line, hw.arms, hw.after, hw.keeps⟩ hsv hkv, by rw [ho]; rfl, rfl⟩
end Go.Vl

namespace Go.Vl
open Go Go.Proofs
/-- What is to be read of a device. -/
structure DevR (A : SP) (d bl : Nat) (svs : List Value) (av : Value) (s : DevS) : Prop where
  d : Cells A d 0 (dcs bl s.ls.length s av)
  b : Cells A bl 0 (lcs svs s.ls)
  len : svs.length = s.ls.length
  st : ∀ i (h : i < s.ls.length), ∃ a c, svs[i]? = some (.slice a s.ls[i].st.length c) ∧ s.ls[i].st.length ≤ c ∧ Rd A a (stc s.ls[i].st)
  wf : WfD s
theorem DevR.left {A X : SP} {d bl : Nat} {svs : List Value} {av : Value} {s : DevS} (h : DevR A d bl svs av s) : DevR (A * X) d bl svs av s :=
  ⟨h.d.left, h.b.left, h.len, fun i hi => by obtain ⟨a, c, h1, h2, h3⟩ := h.st i hi; exact ⟨a, c, h1, h2, h3.left⟩, h.wf⟩
theorem devR_of {F : SP} {d bl : Nat} {svs kvs : List Value} {av : Value} {s : DevS} (hw : WfD s) (hsv : svs.length = s.ls.length) {g : Gh} {w : World} (hs : sat g w (F * DevC d bl svs av kvs s)) : DevR (F * DevC d bl svs av kvs s) d bl svs av s :=
  ⟨dev_cells, cells_all devC_bl (lcs_length hsv), hsv, fun i hi => by
    obtain ⟨R, hf1, _⟩ := devC_focus (d := d) (bl := bl) (kvs := kvs) (av := av) (s := s) hsv hi
    obtain ⟨a, c, h1, h2, _, h3⟩ := sl_have' (hf1 F) hs
    exact ⟨a, c, by rw [List.getElem?_eq_getElem oqz, h1], h2, h3⟩, hw⟩
/-- A call that only reads the device and makes something. -/
theorem fn_devR {P : Program} {f : FuncId} {args : Array Value} {F : SP} {d : Nat} {s : DevS} {Q : Value → SP → Prop}
    (h : WfD s → ∀ A bl svs av, DevR A d bl svs av s → Fn P f args A fun r B => ∃ X, B = A * X ∧ Q r X) :
    Fn P f args (F * Dev d s) fun r B => ∃ X, B = F * Dev d s * X ∧ Q r X := fun g w hs => by
  obtain ⟨hw, bl, svs, av, kvs, h1, h2, hs'⟩ := dev_iff.1 hs
  refine (h hw _ bl svs av (devR_of hw h1 hs') g w hs').mono ?_; rintro e w' ⟨v, B, e1, ⟨X, rfl, hq⟩, hB⟩; refine ⟨v, F * Dev d s * X, e1, ⟨X, rfl, hq⟩, ?_⟩
  rw [star_swap] at hB ⊢
  exact dev_back hw h1 h2 _ _ hB
theorem fn_devR0 {P : Program} {f : FuncId} {args : Array Value} {F : SP} {d : Nat} {s : DevS} {q : Value → Prop}
    (h : WfD s → ∀ A bl svs av, DevR A d bl svs av s → Fn P f args A fun r B => q r ∧ A = B) :
    Fn P f args (F * Dev d s) fun r B => q r ∧ F * Dev d s = B := fun g w hs => by
  obtain ⟨hw, bl, svs, av, kvs, h1, h2, hs'⟩ := dev_iff.1 hs
  refine (h hw _ bl svs av (devR_of hw h1 hs') g w hs').mono ?_; rintro e w' ⟨v, B, e1, ⟨hq, rfl⟩, hB⟩; exact ⟨v, F * Dev d s, e1, ⟨hq, rfl⟩, dev_back hw h1 h2 _ _ hB⟩
theorem seenR_f {A : SP} {d bl : Nat} {svs : List Value} {av : Value} {s : DevS} (h : DevR A d bl svs av s) {i : Nat} (hi : i < s.ls.length) :
    Fn Tryz.prog 52 #[.pointer (some ⟨bl, 0 + i * 2, none⟩)] A (fun r B => r = .agg (wds (seenL s.ls[i])).toArray ∧ A = B) := by
  obtain ⟨a, c, h1, h2, h3⟩ := h.st i hi
  have hwl := h.wf.line _ (List.getElem_mem hi)
  have hp := List.length_pos_iff.2 hwl.ne
  have hb := h.b (i * 2) (.slice a s.ls[i].st.length c) (by
    have := lcs_sv (vs := svs) (ls := s.ls) (i := i) h.len (by have := h.len; omega)
    rw [this]; rw [List.getElem?_eq_getElem (by have := h.len; omega)] at h1; exact h1)
  refine (seen_f A bl (0 + i * 2) c a s.ls[i].st hb h3 hwl.eight hp hwl.small).mono fun v B ⟨e, e'⟩ => ⟨?_, e'⟩
  rw [e, seenL_eq hp]
def img (ls : List LineS) : List Nat := ls.flatMap fun l => lb (seenL l)
/-- All bytes, as they are seen. -/
def imgS (s : DevS) : List Nat := img s.ls
theorem img_take {ls : List LineS} {i : Nat} (h : i < ls.length) : img (ls.take (i + 1)) = img (ls.take i) ++ lb (seenL ls[i]) := by
  unfold img; rw [List.take_succ_eq_append_getElem h, List.flatMap_append]; simp only [List.flatMap_cons, List.flatMap_nil, List.append_nil]
theorem seen8 {l : LineS} (h : WfL l) : (lb (seenL l)).length = 64 := by rw [lb_length, h.eight _ (seenL_mem h)]
theorem img_length {ls : List LineS} (h : ∀ l ∈ ls, WfL l) : (img ls).length = ls.length * 64 := by
  induction ls with
  | nil => rfl
  | cons l ls ih =>
    have := ih fun x hx => h x (by simp [hx])
    have h8 := seen8 (h l (by simp))
    simp only [img, List.flatMap_cons, List.length_append, List.length_cons] at *
    omega
theorem img_at : ∀ {ls : List LineS} {i : Nat} (_ : ∀ l ∈ ls, WfL l) (hi : i < ls.length), (img ls).drop (i * 64) = lb (seenL ls[i]) ++ img (ls.drop (i + 1))
  | l :: ls, 0, _, _ => by simp [img]
  | l :: ls, i + 1, h, hi => by
    have h8 := seen8 (h l (by simp))
    have e : (i + 1) * 64 = (lb (seenL l)).length + i * 64 := by omega
    rw [e]
    show ((lb (seenL l)) ++ img ls).drop _ = _
    rw [← List.drop_drop, List.drop_left]
    exact img_at (fun x hx => h x (by simp [hx])) (by simpa using hi)
theorem img_chunk {ls : List LineS} {q c : Nat} (h : ∀ l ∈ ls, WfL l) (hq : q / 64 < ls.length) (hc : c ≤ 64 - q % 64) :
    ((lb (seenL ls[q / 64])).drop (q % 64)).take c = ((img ls).drop q).take c := by
  have h8 := seen8 (h _ (List.getElem_mem hq))
  have e : q = q / 64 * 64 + q % 64 := by omega
  conv => rhs; rw [e]
  rw [← List.drop_drop, img_at h hq, List.drop_append_of_le_length oqz, List.take_append_of_le_length (by rw [List.length_drop]; omega)]
theorem load_step {W : List Nat} {ls : List LineS} {p m k c : Nat} (h : ∀ l ∈ ls, WfL l) (hW : W = ((img ls).drop p).take m) (hp : p + m ≤ ls.length * 64) (hk : k < m) (hc : c = min (64 - (p + k) % 64) (m - k)) (hq : (p + k) / 64 < ls.length) (z : Value) :
    splice (bys (W.take k) ++ List.replicate (m - k) z) k ((bys ((lb (seenL ls[(p + k) / 64])).drop ((p + k) % 64))).take c) = bys (W.take (k + c)) ++ List.replicate (m - (k + c)) z := by
  have hl := img_length h
  have hWl : W.length = m := by rw [hW, List.length_take, List.length_drop]; omega
  have h8 := seen8 (h _ (List.getElem_mem hq))
  have e1 : (bys ((lb (seenL ls[(p + k) / 64])).drop ((p + k) % 64))).take c = bys ((W.drop k).take c) := by
    unfold bys
    rw [← List.map_take, img_chunk h hq oqz, hW, List.drop_take, List.drop_drop, List.take_take]
    congr 2; omega
  rw [e1, splice_eq (by simp [bys_length, hWl]; omega)]
  have e2 : (bys (W.take k)).length = k := by rw [bys_length, List.length_take]; omega
  have e3 : (bys ((W.drop k).take c)).length = c := by rw [bys_length, List.length_take, List.length_drop]; omega
  rw [e3, List.take_left' e2, ← List.drop_drop, List.drop_left' e2, List.drop_replicate, List.take_add, bys_append]
  congr 2; omega
/-- Lists of bytes, each owned. -/
def Parts : List Value → List (List Nat) → SP
  | v :: vs, x :: xs => Parts vs xs * Sl 1 v x.length (bys x)
  | [], [] => emp
  | _, _ => pure_ False
theorem parts_snoc : ∀ {vs : List Value} {ls : List (List Nat)} {v : Value} {x : List Nat} (_ : vs.length = ls.length), Parts (vs ++ [v]) (ls ++ [x]) = Parts vs ls * Sl 1 v x.length (bys x)
  | [], [], _, _, _ => rfl
  | u :: vs, y :: ls, v, x, h => by
    show Parts (vs ++ [v]) (ls ++ [x]) * Sl 1 u y.length (bys y) = _
    rw [parts_snoc (by simpa using h)]
    show _ = Parts vs ls * Sl 1 u y.length (bys y) * Sl 1 v x.length (bys x)
    rw [star_swap]
theorem Image_f (A : SP) (d bl : Nat) (svs : List Value) (av : Value) (s : DevS) (hR : DevR A d bl svs av s) :
    Fn Tryz.prog 15 #[.pointer (some ⟨d, 0, none⟩)] (A) (fun r B => ∃ X, B = A * X ∧ X = Sl 1 r (s.ls.length * 64) (bys (imgS s))) := by
  refine fn_enterW (args := [.pointer (some ⟨d, 0, none⟩)]) Tryz.func15 rfl Tryz.ntmps15 (by simp) ?_
  have hpos := hR.wf.pos
  have htop := hR.wf.top
  refine sr ?_; refine tv (o_assign rfl) ?_; refine nq ?_; refine tc_seq ?_; refine sr ?_; refine tv (o_move rfl) ?_; refine tl_c rfl (o_call bd51 rfl (none_f _ d bl s.ls.length s av hR.d hpos htop)) ?_; rintro _ _ ⟨rfl, rfl⟩; refine nq ?_; refine tc_cond rfl (fun h => ?_) (fun h => ?_)
  · (exfalso; first | (revert h; simp; done) | (revert h; simp; omega) | (simp at h; omega) | omega)
  · try simp only [lv1, lv2, lv3, lv4, lv5, lv6, Bool.not_true, Bool.not_false] at h
    refine tc_skip ?_; refine q_then_n ?_; refine sr ?_; refine tv (o_move rfl) ?_; refine tl_c rfl (o_call bd28 rfl (Size_f _ d bl s.ls.length s av hR.d hpos htop)) ?_; rintro _ _ ⟨rfl, rfl⟩; refine tl_x rfl (o_makeSlice (len := 0) (cap := s.ls.length * 64) Tryz.underlying22 sz5 by5 z5 rfl rfl (by show Value.int .i64 ((s.ls.length : Int) * 64) = _; congr 1) oqz oqz oqz) ?_; rintro _ _ ⟨b9, rfl, rfl⟩; refine tl_pre (fun _ _ h => sl_new (k := 1) (n := 0) (cap := s.ls.length * 64) (xs := []) h oqz (by simp) (by simp)) ?_; refine tv (o_assign rfl) ?_; refine nq ?_; refine tc_seq ?_; refine sr ?_; refine tv (o_move rfl) ?_; refine tv (o_nilCheck rfl) ?_; refine tv (o_fieldAddr (o := 0) Tryz.underlying64 rfl rfl sz62 rfl) ?_; refine tv (o_loadC p62 rfl (hR.d 0 _ rfl).left) ?_; refine tv (o_len Tryz.underlying62 rfl) ?_; refine tv (o_move rfl) ?_; refine nq ?_; refine tc_block ?_; refine tc_loop (fun k ρ B => ∃ (i : Nat) (v : Value), i ≤ s.ls.length ∧ k = s.ls.length - i ∧ ρ 0 = .pointer (some ⟨d, 0, none⟩) ∧ ρ 3 = v ∧ ρ 14 = .int .i64 s.ls.length ∧ ρ 15 = .int .i64 i ∧ B = A * Sl 1 v (i * 64) (bys (img (s.ls.take i)))) (m := s.ls.length) ?_ ?_
    · exact ⟨0, .slice (some ⟨b9, 0, none⟩) 0 (s.ls.length * 64), by omega, rfl, rfl, rfl, rfl, rfl, rfl⟩
    · intro k ρ B hI
      obtain ⟨i, v, hi, rfl, h0, h3, h14, h15, rfl⟩ := hI
      refine tc_env (d := 0) h0 ?_; refine tc_env (d := 3) h3 ?_; refine tc_env (d := 14) h14 ?_; refine tc_env (d := 15) h15 ?_; refine sr ?_; refine tv (o_lss rfl rfl) ?_; refine nq ?_; refine tc_seq ?_; refine tc_cond rfl (fun h => ?_) (fun h => ?_)
      · simp only [decide_eq_true_eq] at h
        have hi' : i < s.ls.length := by omega
        have hwl := hR.wf.line _ (List.getElem_mem hi')
        refine tc_skip ?_; refine q_then_n ?_; refine tc_seq ?_; refine tc_block ?_; refine sr ?_; refine tv (o_move rfl) ?_; refine tv (o_assign rfl) ?_; refine nq ?_; refine tc_reg ?_; refine tv (o_move rfl) ?_; refine tv (o_move rfl) ?_; refine tv (o_nilCheck rfl) ?_; refine tv (o_fieldAddr (o := 0) Tryz.underlying64 rfl rfl sz62 rfl) ?_; refine tv (o_loadC p62 rfl (hR.d 0 _ rfl).left) ?_; refine tv (o_move rfl) ?_; refine tv (o_indexAddrN Tryz.underlying62 sz71 rfl rfl oqz) ?_; refine tl_c rfl (o_call bd52 rfl (seenR_f hR.left hi')) ?_; rintro _ _ ⟨rfl, rfl⟩; refine tl_c rfl (o_call bd53 rfl (bytes_f _ (seenL s.ls[i]) (hwl.eight _ (seenL_mem hwl)) (hwl.words _ (seenL_mem hwl)))) ?_; rintro u26 _ ⟨_, rfl, rfl⟩; refine tl_have (fun _ _ h => sl_have h) fun ⟨a2, c2, hv2, _, hl2, hrd2⟩ => ?_
        subst hv2
        refine tl_x rfl (o_append2 Tryz.underlying22 Tryz.underlying22 sz5 by5 z5 rfl (by decide) (by decide) rfl rfl (star_swap _ _ _) hrd2 hl2 (bys_all _) oqz) ?_; rintro u27 _ rfl; refine tl_pre (fun _ _ h => h.drop2) ?_; refine tv (o_assign rfl) ?_; refine tl_nil ?_; refine q_block_n (q_then_n ?_); refine tc_reg ?_; refine tv adqz ?_; refine tv (o_move rfl) ?_; refine nq ?_; exact ⟨_, by omega, i + 1, u27, by omega, rfl, rfl, rfl, rfl, rfl, by rw [img_take hi', bys_append, Nat.add_mul]⟩
      · try simp only [lv1, lv2, lv3, lv4, lv5, lv6, Bool.not_true, Bool.not_false] at h
        refine tc_exit ?_; refine q_then_e (q_then_e (q_block_x (q_then_n ?_))); refine sr ?_; refine tv (o_move rfl) ?_; refine tv (o_assign rfl) ?_; refine nq ?_; refine tc_ret ?_
        obtain rfl : i = s.ls.length := by omega
        rw [List.take_length]
        exact ⟨v, _, res1 rfl rfl, fun _ _ h => h, _, rfl, rfl⟩
theorem LoadNo_f (A : SP) (d bl : Nat) (svs : List Value) (av : Value) (s : DevS) (hR : DevR A d bl svs av s) (p m : Int) (hp : -9223372036854775808 ≤ p ∧ p ≤ 9223372036854775807) (hm : -9223372036854775808 ≤ m ∧ m ≤ 9223372036854775807) (hno : rdy s.ls.length s.off p m ≠ 0) :
    Fn Tryz.prog 27 #[.pointer (some ⟨d, 0, none⟩), .int .i64 p, .int .i64 m] (A) (fun r B => r = .tuple #[.slice none 0 0, .int .i64 (rdy s.ls.length s.off p m)] ∧ A = B) := by
  refine fn_enter (args := [.pointer (some ⟨d, 0, none⟩), .int .i64 p, .int .i64 m]) Tryz.func27 rfl Tryz.ntmps27 (by simp) ?_; refine sr ?_; refine tv (o_assign rfl) ?_; refine tv (o_assign rfl) ?_; refine nq ?_; refine tc_seq ?_; refine sr ?_; refine tv (o_move rfl) ?_; refine tv (o_move rfl) ?_; refine tv (o_move rfl) ?_; refine tl_c rfl (o_call bd64 rfl (ready_f _ d bl s.ls.length s av hR.d hR.wf.pos hR.wf.top p m hp hm)) ?_; rintro _ _ ⟨rfl, rfl⟩; refine tv (o_assign rfl) ?_; refine nq ?_; refine sr ?_; refine tv (o_move rfl) ?_; refine tv (o_nei rfl rfl) ?_; refine nq ?_; refine tc_cond rfl (fun h => ?_) (fun h => ?_)
  · try simp only [lv1, lv2, lv3, lv4, lv5, lv6, Bool.not_true, Bool.not_false] at h
    refine sr ?_; refine tv (o_move rfl) ?_; refine tv (o_assign rfl) ?_; refine tv (o_assign rfl) ?_; refine nq ?_; refine tc_ret ?_; refine q_then_r ?_; exact ⟨.tuple #[.slice none 0 0, .int .i64 (rdy s.ls.length s.off p m)], res2 rfl rfl rfl, rfl, rfl⟩
  · exfalso; simp [hno] at h
theorem Load_f (A : SP) (d bl : Nat) (svs : List Value) (av : Value) (s : DevS) (p m : Nat) (W : List Nat) (hR : DevR A d bl svs av s) (hoff : s.off = false) (hpm : p + m ≤ s.ls.length * 64) (hW : W = ((imgS s).drop p).take m) :
    Fn Tryz.prog 27 #[.pointer (some ⟨d, 0, none⟩), .int .i64 (p : Nat), .int .i64 (m : Nat)] (A) (fun r B => ∃ X, B = A * X ∧ ∃ u, r = .tuple #[u, .int .i64 0] ∧ X = Sl 1 u m (bys W)) := by
  refine fn_enterW (args := [.pointer (some ⟨d, 0, none⟩), .int .i64 (p : Nat), .int .i64 (m : Nat)]) Tryz.func27 rfl Tryz.ntmps27 (by simp) ?_
  have hpos := hR.wf.pos
  have htop := hR.wf.top
  have hok : rdy s.ls.length s.off p m = 0 := by unfold rdy; rw [hoff, if_neg (by simp), if_neg oqz]
  have hWl : W.length = m := by rw [hW, List.length_take, List.length_drop, imgS, img_length hR.wf.line]; omega
  refine sr ?_; refine tv (o_assign rfl) ?_; refine tv (o_assign rfl) ?_; refine nq ?_; refine tc_seq ?_; refine sr ?_; refine tv (o_move rfl) ?_; refine tv (o_move rfl) ?_; refine tv (o_move rfl) ?_; refine tl_c rfl (o_call bd64 rfl (ready_f _ d bl s.ls.length s av hR.d hR.wf.pos hR.wf.top p m oqz oqz)) ?_; rintro _ _ ⟨rfl, rfl⟩; refine tv (o_assign rfl) ?_; refine nq ?_; refine sr ?_; refine tv (o_move rfl) ?_; refine tv (o_nei rfl rfl) ?_; refine nq ?_; refine tc_cond rfl (fun h => ?_) (fun h => ?_)
  · exfalso; simp [hok] at h
  · try simp only [lv1, lv2, lv3, lv4, lv5, lv6, Bool.not_true, Bool.not_false] at h
    refine tc_skip ?_; refine q_then_n ?_; refine sr ?_; refine tv (o_move rfl) ?_; refine tl_x rfl (o_makeSlice (len := m) (cap := m) Tryz.underlying22 sz5 by5 z5 rfl rfl rfl oqz oqz oqz) ?_; rintro _ _ ⟨b21, rfl, rfl⟩; refine tv (o_assign rfl) ?_; refine nq ?_; refine tc_seq ?_; refine sr ?_; refine tv (o_assign rfl) ?_; refine nq ?_; refine tc_block ?_; refine tc_loop (fun j ρ B => ∃ (k : Nat), k ≤ m ∧ j = m - k ∧ ρ 0 = .pointer (some ⟨d, 0, none⟩) ∧ ρ 1 = .int .i64 (p : Nat) ∧ ρ 2 = .int .i64 (m : Nat) ∧ ρ 9 = .slice (some ⟨b21, 0, none⟩) m m ∧ ρ 10 = .int .i64 (k : Nat) ∧ B = A * pt b21 (cl (bys (W.take k) ++ List.replicate (m - k) (.int .u8 0)) 5)) (m := m) ?_ ?_
    · exact ⟨0, by omega, rfl, rfl, rfl, rfl, rfl, rfl, rfl⟩
    · intro k ρ B hI
      obtain ⟨k, hk, rfl, h0, h1, h2, h9, h10, rfl⟩ := hI
      refine tc_env (d := 0) h0 ?_; refine tc_env (d := 1) h1 ?_; refine tc_env (d := 2) h2 ?_; refine tc_env (d := 9) h9 ?_; refine tc_env (d := 10) h10 ?_; refine tc_seq ?_; refine sr ?_; refine tv (o_move rfl) ?_; refine tv (o_move rfl) ?_; refine tv (o_lss rfl rfl) ?_; refine nq ?_; refine tc_cond rfl (fun h => ?_) (fun h => ?_)
      · simp only [decide_eq_true_eq] at h
        have hk' : k < m := by omega
        have hq : (p + k) / 64 < s.ls.length := by omega
        have hwl := hR.wf.line _ (List.getElem_mem hq)
        have h64 := seen8 hwl
        refine tc_skip ?_; refine q_then_n ?_; refine tc_block ?_; refine sr ?_; refine tv (o_move rfl) ?_; refine tv (o_move rfl) ?_; refine tv adqz ?_; refine tl_env (d := 27) (v := .int .i64 ((p + k : Nat) : Int)) rfl ?_; refine tv (o_assign rfl) ?_; refine nq ?_; refine sr ?_; refine tv (o_move rfl) ?_; refine tv (o_nilCheck rfl) ?_; refine tv (o_fieldAddr (o := 0) Tryz.underlying64 rfl rfl sz62 rfl) ?_; refine tv (o_loadC p62 rfl (hR.d 0 _ rfl).left) ?_; refine tv (o_move rfl) ?_; refine tv (o_quoN (a := p + k) (b := 64) rfl rfl oqz) ?_; refine tv (o_indexAddrN (j := (p + k) / 64) Tryz.underlying62 sz71 rfl rfl hq) ?_; refine tl_c rfl (o_call bd52 rfl (seenR_f hR.left hq)) ?_; rintro _ _ ⟨rfl, rfl⟩; refine tl_c rfl (o_call bd53 rfl (bytes_f _ (seenL s.ls[(p + k) / 64]) (hwl.eight _ (seenL_mem hwl)) (hwl.words _ (seenL_mem hwl)))) ?_; rintro u36 _ ⟨_, rfl, rfl⟩; refine tl_have (fun _ _ h => sl_have h) fun ⟨a2, c2, hv2, hnc2, hl2, hrd2⟩ => ?_
        subst hv2
        refine tv (o_assign rfl) ?_; refine nq ?_; refine tc_rega mo ?_
        show TA _ _ _ _ 11 #[ff,ff,ff,ff,ff,ff,ff,ff,ff,ff,ff] _ _
        refine ta_pure (i := 0) (listed' := #[tt,ff,ff,ff,ff,ff,ff,ff,ff,ff,ff]) rfl kqz kqz kqz rfl rfl (o_move rfl) ?_; refine ta_pure (i := 1) (listed' := #[tt,tt,ff,ff,ff,ff,ff,ff,ff,ff,ff]) rfl kqz kqz kqz rfl rfl (o_move rfl) ?_; refine ta_pure (i := 2) (listed' := #[tt,tt,tt,ff,ff,ff,ff,ff,ff,ff,ff]) rfl kqz kqz kqz rfl rfl (o_move rfl) ?_; refine ta_pure (i := 3) (listed' := #[tt,tt,tt,tt,ff,ff,ff,ff,ff,ff,ff]) rfl kqz kqz kqz rfl rfl (o_slice (l := k) (h := m) Tryz.underlying22 sz5 rfl (bnd_nat (r := k) rfl) bnd_none oqz oqz) ?_; refine ta_pure (i := 4) (listed' := #[tt,tt,tt,tt,tt,ff,ff,ff,ff,ff,ff]) rfl kqz kqz kqz rfl rfl (o_move rfl) ?_; refine ta_pure (i := 5) (listed' := #[tt,tt,tt,tt,tt,tt,ff,ff,ff,ff,ff]) rfl kqz kqz kqz rfl rfl (o_move rfl) ?_; refine ta_pure (i := 6) (listed' := #[tt,tt,tt,tt,tt,tt,tt,ff,ff,ff,ff]) rfl kqz kqz kqz rfl rfl (o_remN (a := p + k) (b := 64) rfl rfl oqz) ?_; refine ta_pure (i := 7) (listed' := #[tt,tt,tt,tt,tt,tt,tt,tt,ff,ff,ff]) rfl kqz kqz kqz rfl rfl (o_slice (l := (p + k) % 64) (h := 64) Tryz.underlying22 sz5 rfl (bnd_nat (r := (p + k) % 64) rfl) bnd_none oqz oqz) ?_
        obtain ⟨b2, o2, rfl, hcs2⟩ := hrd2.some (by rw [bys_length]; omega)
        have hlt2 : (p + k) % 64 < c2 := by omega
        have hsub : Rd (A * pt b21 (cl (bys (W.take k) ++ List.replicate (m - k) (.int .u8 0)) 5) * Sl 1 (.slice (some ⟨b2, o2, none⟩) 64 c2) 64 (bys (lb (seenL s.ls[(p + k) / 64])))) (cutAddr (some ⟨b2, o2, none⟩) c2 ((p + k) % 64) 1) (bys ((lb (seenL s.ls[(p + k) / 64])).drop ((p + k) % 64))) := by
          rw [cut_lt hlt2]
          refine rd_cells (hcs2.sub ((p + k) % 64 * 1) (64 - (p + k) % 64) ?_)
          unfold bys
          rw [Nat.mul_one, List.map_drop, List.take_of_length_le]
          rw [List.length_drop, List.length_map]; omega
        refine ta_one (i := 8) kqz ?_; refine oa_x (i := 8) (listed' := #[tt,tt,tt,tt,tt,tt,tt,tt,tt,ff,ff]) rfl rfl rfl (o_copy (b := b21) (off := k) (dl := m - k) (dc := m - k) (m := min (64 - (p + k) % 64) (m - k)) (l' := bys (W.take (k + min (64 - (p + k) % 64) (m - k))) ++ List.replicate (m - (k + min (64 - (p + k) % 64) (m - k))) (.int .u8 0)) Tryz.underlying22 sz5 (by show Value.slice (cutAddr (some ⟨b21, 0, none⟩) m k 1) (m - k) (m - k) = _; rw [cut_lt hk', Nat.zero_add, Nat.mul_one]) rfl hsub (by rw [bys_length, List.length_drop]; omega) rfl bys_oneC (by rw [List.length_append, bys_length, List.length_take, List.length_replicate]; omega) (load_step hR.wf.line hW hpm hk' rfl hq _) (upd_left upd_here)) ?_; rintro _ _ ⟨rfl, rfl⟩; refine ta_pre (fun _ _ h => h.left) ?_; refine ta_pure (i := 9) (listed' := #[tt,tt,tt,tt,tt,tt,tt,tt,tt,tt,ff]) rfl kqz kqz kqz rfl rfl adqz ?_; refine ta_pure (i := 10) (listed' := #[tt,tt,tt,tt,tt,tt,tt,tt,tt,tt,tt]) rfl kqz kqz kqz rfl rfl (o_assign rfl) ?_; refine ta_done kqz ?_; refine q_block_n (q_then_n ?_); exact ⟨_, by omega, k + min (64 - (p + k) % 64) (m - k), by omega, rfl, rfl, rfl, rfl, rfl, rfl, rfl⟩
      · try simp only [lv1, lv2, lv3, lv4, lv5, lv6, Bool.not_true, Bool.not_false] at h
        refine tc_exit ?_; refine q_then_e (q_then_e (q_block_x (q_then_n ?_))); refine sr ?_; refine tv (o_move rfl) ?_; refine tv (o_assign rfl) ?_; refine tv (o_assign rfl) ?_; refine nq ?_; refine tc_ret ?_
        obtain rfl : k = m := by omega
        rw [List.take_of_length_le oqz, Nat.sub_self]
        exact ⟨.tuple #[.slice (some ⟨b21, 0, none⟩) k k, .int .i64 0], _, res2 rfl rfl rfl, fun _ _ h => sl_new (k := 1) (n := k) (cap := k) (xs := bys W) h oqz (by simp [bys_length, hWl]) (List.take_of_length_le (by simp [bys_length, hWl]) |>.trans (by simp)), _, rfl, _, rfl, rfl⟩
end Go.Vl

namespace Go.Vl
open Go Go.Proofs
/-- What Contents tells. -/
def ctS (i : Nat) (s : DevS) : List (List Nat) := (s.ls.getD i ⟨[], 0⟩).st.map lb
end Go.Vl

namespace Go.Vl
open Go Go.Proofs
section
variable {P : Program} {n : Nat} {ρ : Env} {A : SP} {dst : Option Tmp} {ty : TypeId} {pos : String} {after : Array Edge} {gd : Option (Nat × Bool)}
theorem o_sliceLt {t e : TypeId} {x : Operand} {lo hi : Option Operand} {b o : Nat} {len cap l h k : Nat} (hu : P.underlying t = some (.slice e)) (hk : szE P e = some k) (hx : ev n ρ x = .slice (some ⟨b, o, none⟩) len cap)
    (hl : bnd n ρ lo 0 l) (hh : bnd n ρ hi len h) (h1 : l ≤ h) (h2 : h ≤ cap) (h3 : l < cap) :
    OpV P n ρ A ⟨dst, .slice t x lo hi none, ty, pos, after, gd⟩ (.slice (some ⟨b, o + l * k, none⟩) (h - l) (cap - l)) := by
  have := o_slice (A := A) (dst := dst) (ty := ty) (pos := pos) (after := after) (gd := gd) hu hk hx hl hh h1 h2
  rwa [cut_lt h3] at this
end
theorem lcs_set_sv' {vs : List Value} {ls : List LineS} {i : Nat} {v : Value} (h : vs.length = ls.length) (hi : i < ls.length) : (lcs vs ls).set (i * 2) v = lcs (vs.set i v) ls := by
  have := lcs_set_sv (v := v) ls[i] h hi rfl
  rwa [set_getElem hi] at this
theorem Fence_f (F : SP) (d : Nat) (s : DevS) :
    Fn Tryz.prog 40 #[.pointer (some ⟨d, 0, none⟩)] (F * Dev d s) (fun r B => r = .int .i64 (fe s).1 ∧ B = F * Dev d (fe s).2) := by
  refine fn_enterW (args := [.pointer (some ⟨d, 0, none⟩)]) Tryz.func40 rfl Tryz.ntmps40 (by simp) ?_; refine tc_dev fun hw bl svs av kvs hsv hkv => ?_
  have hpos := hw.pos
  have htop := hw.top
  refine sr ?_; refine tv (o_assign rfl) ?_; refine nq ?_; refine tc_seq ?_; refine sr ?_; refine tv (o_move rfl) ?_; refine tl_c rfl (o_call bd64 rfl (ready_f _ d bl s.ls.length s av dev_cells hpos htop 0 0 oqz oqz)) ?_; rintro _ _ ⟨rfl, rfl⟩; refine tv (o_assign rfl) ?_; refine nq ?_; refine sr ?_; refine tv (o_move rfl) ?_; refine tv (o_nei rfl rfl) ?_; refine nq ?_; refine tc_cond rfl (fun h => ?_) (fun h => ?_)
  · rw [rdy00] at h
    have ho : s.off = true := by
      cases ho : s.off with
      | true => rfl
      | false => rw [ho] at h; simp at h
    refine sr ?_; refine tv (o_move rfl) ?_; refine tv (o_assign rfl) ?_; refine nq ?_; refine tc_ret ?_; refine q_then_r ?_; exact ⟨.int .i64 5, _, res1 rfl (by show Value.int .i64 (rdy _ _ _ _) = _; rw [rdy00, ho]; rfl), dev_back hw hsv hkv, by unfold fe; rw [if_pos ho], by unfold fe; rw [if_pos ho]⟩
  · rw [rdy00] at h
    have ho : s.off = false := by
      cases ho : s.off with
      | false => rfl
      | true => rw [ho] at h; simp at h
    refine tc_skip ?_; refine q_then_n ?_; refine tc_seq ?_; refine sr ?_; refine tv (o_move rfl) ?_; refine tv (o_nilCheck rfl) ?_; refine tv (o_fieldAddr (o := 0) Tryz.underlying64 rfl rfl sz62 rfl) ?_; refine tv (o_load p62 rfl devC_d rfl) ?_; refine tv (o_len Tryz.underlying62 rfl) ?_; refine tv (o_move rfl) ?_; refine nq ?_; refine tc_block ?_; refine tc_loop (fun k ρ B => ∃ (i : Nat) (svs' : List Value), i ≤ s.ls.length ∧ k = s.ls.length - i ∧ svs'.length = s.ls.length ∧ ρ 0 = .pointer (some ⟨d, 0, none⟩) ∧ ρ 15 = .int .i64 s.ls.length ∧ ρ 16 = .int .i64 i ∧ B = F * DevC d bl svs' av kvs { s with ls := mp fenceL i s.ls }) (m := s.ls.length) ?_ ?_
    · exact ⟨0, svs, by omega, rfl, hsv, rfl, rfl, rfl, by rw [mp_zero]⟩
    · intro k ρ B hI
      obtain ⟨i, svs', hi, rfl, hsv', h0, h15, h16, rfl⟩ := hI
      refine tc_env (d := 0) h0 ?_; refine tc_env (d := 15) h15 ?_; refine tc_env (d := 16) h16 ?_; refine sr ?_; refine tv (o_lss rfl rfl) ?_; refine nq ?_; refine tc_seq ?_; refine tc_cond rfl (fun h => ?_) (fun h => ?_)
      · simp only [decide_eq_true_eq] at h
        have hi' : i < s.ls.length := by omega
        have hiG : i < (mp fenceL i s.ls).length := by rw [mp_length]; exact hi'
        have hsG : svs'.length = (mp fenceL i s.ls).length := by rw [mp_length]; exact hsv'
        obtain ⟨R, hf1, hf2⟩ := devC_focus (d := d) (bl := bl) (kvs := kvs) (av := av) (s := { s with ls := mp fenceL i s.ls }) hsG hiG
        refine tc_eq (hf1 F) ?_; refine tc_have (fun _ _ h => sl_have' rfl h) fun ⟨a', c', hv, hn', hl', hrd⟩ => ?_
        have hwl : WfL s.ls[i] := hw.line _ (List.getElem_mem _)
        have hat : (mp fenceL i s.ls)[i] = s.ls[i] := mp_at fenceL hi'
        simp only [hat] at hv hn' hl' hrd ⊢
        have hcell : (lcs svs' (mp fenceL i s.ls))[0 + i * 2 + 0]? = some (.slice a' s.ls[i].st.length c') := by rw [Nat.zero_add, Nat.add_zero, lcs_sv hsG oqz, hv]
        have hmk : (lcs svs' (mp fenceL i s.ls))[0 + i * 2 + 1]? = some (.int .i64 s.ls[i].mark) := by rw [Nat.zero_add, lcs_mark hsG hiG, hat]
        have hlen : 0 < s.ls[i].st.length := List.length_pos_iff.2 hwl.ne
        have hsm := hwl.small
        have hmlo := hwl.lo
        have hmhi := hwl.hi
        have hglen : (mp fenceL i s.ls).length = s.ls.length := mp_length _ _ _
        refine tc_skip ?_; refine q_then_n ?_; refine tc_seq ?_; refine tc_block ?_; refine sr ?_; refine tv (o_move rfl) ?_; refine tv (o_assign rfl) ?_; refine nq ?_; refine sr ?_; refine tv (o_move rfl) ?_; refine tv (o_nilCheck rfl) ?_; refine tv (o_fieldAddr (o := 0) Tryz.underlying64 rfl rfl sz62 rfl) ?_; refine tv (o_load p62 rfl sq5z rfl) ?_; refine tv (o_move rfl) ?_; refine tv (o_indexAddrN Tryz.underlying62 sz71 rfl rfl oqz) ?_; refine tv (o_assign rfl) ?_; refine nq ?_; refine sr ?_; refine tv (o_move rfl) ?_; refine tv (o_nilCheck rfl) ?_; refine tv (o_fieldAddr (o := 1) Tryz.underlying71 rfl rfl sz3 rfl) ?_; refine tv (o_load p3 rfl sq5z hmk) ?_; refine tv (o_geq rfl rfl) ?_; refine nq ?_; refine tc_cond rfl (fun h => ?_) (fun h => ?_)
        · simp only [decide_eq_true_eq] at h
          obtain ⟨m, hm⟩ := Int.eq_ofNat_of_zero_le (show 0 ≤ s.ls[i].mark by omega)
          have hmn : m < s.ls[i].st.length := by omega
          obtain ⟨b, o, rfl, hcs⟩ := hrd.some (by rw [hl']; omega)
          have hfl : fenceL s.ls[i] = ⟨s.ls[i].st.drop m, -1⟩ := by unfold fenceL; rw [if_pos oqz, hm]; rfl
          have hdl : (stc (s.ls[i].st.drop m)).length = (s.ls[i].st.length - m) * 8 := by rw [stc_length (fun x hx => hwl.eight x (List.mem_of_mem_drop hx)), List.length_drop]
          have hsub := hcs.sub (m * 8) ((s.ls[i].st.length - m) * 8) (show ((stc s.ls[i].st).drop (m * 8)).take ((s.ls[i].st.length - m) * 8) = stc (s.ls[i].st.drop m) by rw [stc_drop hwl.eight m oqz, List.take_of_length_le oqz])
          have hcut := cut_lt (b := b) (o := o) (k := 8) (show m < c' by omega)
          have hoc : (stc (s.ls[i].st.drop m)).all oneC = true := by
            rw [List.all_eq_true]; intro x hx
            simp only [stc, List.mem_flatMap, wds, List.mem_map] at hx
            obtain ⟨_, _, _, _, rfl⟩ := hx
            rfl
          refine tc_seq ?_; refine tc_rega mo ?_
          show TA _ _ _ _ 14 #[ff,ff,ff,ff,ff,ff,ff,ff,ff,ff,ff,ff,ff,ff] _ _
          refine ta_pure (i := 0) (listed' := #[tt,ff,ff,ff,ff,ff,ff,ff,ff,ff,ff,ff,ff,ff]) rfl kqz kqz kqz rfl rfl (o_move rfl) ?_; refine ta_pure (i := 1) (listed' := #[tt,tt,ff,ff,ff,ff,ff,ff,ff,ff,ff,ff,ff,ff]) rfl kqz kqz kqz rfl rfl (o_move rfl) ?_; refine ta_pure (i := 2) (listed' := #[tt,tt,tt,ff,ff,ff,ff,ff,ff,ff,ff,ff,ff,ff]) rfl kqz kqz kqz rfl rfl (o_nilCheck rfl) ?_; refine ta_pure (i := 3) (listed' := #[tt,tt,tt,tt,ff,ff,ff,ff,ff,ff,ff,ff,ff,ff]) rfl kqz kqz kqz rfl rfl (o_fieldAddr (o := 0) Tryz.underlying71 rfl rfl sz69 rfl) ?_; refine ta_pure (i := 5) (listed' := #[tt,tt,tt,tt,ff,tt,ff,ff,ff,ff,ff,ff,ff,ff]) rfl kqz kqz kqz rfl rfl (o_move rfl) ?_; refine ta_pure (i := 6) (listed' := #[tt,tt,tt,tt,ff,tt,tt,ff,ff,ff,ff,ff,ff,ff]) rfl kqz kqz kqz rfl rfl (o_nilCheck rfl) ?_; refine ta_pure (i := 7) (listed' := #[tt,tt,tt,tt,ff,tt,tt,tt,ff,ff,ff,ff,ff,ff]) rfl kqz kqz kqz rfl rfl (o_fieldAddr (o := 1) Tryz.underlying71 rfl rfl sz3 rfl) ?_; refine ta_two (i := 4) (j := 8) kqz ?_ ?_
          · skip
            refine oa_v (i := 4) (listed' := #[tt,tt,tt,tt,tt,tt,tt,tt,ff,ff,ff,ff,ff,ff]) rfl rfl rfl (o_load p69 rfl sq5z hcell) ?_; refine ta_one (i := 8) kqz ?_; refine oa_v (i := 8) (listed' := #[tt,tt,tt,tt,tt,tt,tt,tt,tt,ff,ff,ff,ff,ff]) rfl rfl rfl (o_load p3 rfl sq5z (hmk.trans (by rw [hm]))) ?_; refine ta_pure (i := 9) (listed' := #[tt,tt,tt,tt,tt,tt,tt,tt,tt,tt,ff,ff,ff,ff]) rfl kqz kqz kqz rfl rfl (o_sliceLt (l := m) (h := s.ls[i].st.length) Tryz.underlying69 sz68 rfl (bnd_nat (r := m) rfl) bnd_none oqz oqz oqz) ?_; refine ta_one (i := 10) kqz ?_; refine oa_c (i := 10) (listed' := #[tt,tt,tt,tt,tt,tt,tt,tt,tt,tt,tt,ff,ff,ff]) rfl rfl rfl (o_call bd82 rfl (CloneS_f _ (s.ls[i].st.length - m) (c' - m) (stc (s.ls[i].st.drop m)) ⟨b, o + m * 8, none⟩ (rd_cells hsub) hdl hoc oqz)) ?_; rintro u40 _ rfl; refine ta_have (fun _ _ h => sl_have h) fun ⟨_, _, hu, _, _, _⟩ => ?_
            have hu1 : oneC u40 = true := by rw [hu]; rfl
            refine ta_pre (fun _ _ h => h.drop2) ?_; refine ta_pure (i := 11) (listed' := #[tt,tt,tt,tt,tt,tt,tt,tt,tt,tt,tt,tt,ff,ff]) rfl kqz kqz kqz rfl rfl (o_nilCheck rfl) ?_; refine ta_pure (i := 12) (listed' := #[tt,tt,tt,tt,tt,tt,tt,tt,tt,tt,tt,tt,tt,ff]) rfl kqz kqz kqz rfl rfl (o_fieldAddr (o := 0) Tryz.underlying71 rfl rfl sz69 rfl) ?_; refine ta_one (i := 13) kqz ?_; refine oa_u (i := 13) (listed' := #[tt,tt,tt,tt,tt,tt,tt,tt,tt,tt,tt,tt,tt,tt]) rfl rfl rfl (o_store (l := lcs svs' (mp fenceL i s.ls)) (l' := lcs (svs'.set i u40) (mp fenceL i s.ls)) sz69 rfl rfl hu1 (by rw [lcs_length hsG, hglen]; omega) (by rw [Nat.zero_add, Nat.add_zero]; exact lcs_set_sv' hsG hiG) sq8z) ?_; refine ta_done kqz ?_; refine q_then_n ?_; refine tc_reg ?_; refine tv (o_move rfl) ?_; refine tv (o_nilCheck rfl) ?_; refine tv (o_fieldAddr (o := 1) Tryz.underlying71 rfl rfl sz3 rfl) ?_; refine tl_u rfl (o_store (l := lcs (svs'.set i u40) (mp fenceL i s.ls)) (l' := lcs (svs'.set i u40) ((mp fenceL i s.ls).set i (fenceL s.ls[i]))) sz3 rfl rfl rfl (by rw [lcs_length (by rw [List.length_set]; exact hsG), hglen]; omega) (by rw [Nat.zero_add]; have := lcs_set_mark (fenceL s.ls[i]) (vs := svs'.set i u40) (by rw [List.length_set]; exact hsG) hiG; rw [hfl] at this ⊢; exact this) sq8z) ?_
            refine tl_nil ?_; refine q_block_n (q_then_n ?_); refine tc_reg ?_
            have hfin := hf2 F u40 (fenceL s.ls[i])
            have hdl2 : (s.ls[i].st.drop m).length = s.ls[i].st.length - m := List.length_drop
            rw [show (fenceL s.ls[i]).st = s.ls[i].st.drop m by rw [hfl], hdl2] at hfin
            refine tl_eq hfin ?_
            simp only [mp_set fenceL hi']
            have hsvN : (svs'.set i u40).length = s.ls.length := by rw [List.length_set]; exact hsv'
            refine tv adqz ?_; refine tv (o_move rfl) ?_; refine nq ?_; exact ⟨_, by omega, i + 1, _, by omega, rfl, hsvN, rfl, rfl, rfl, rfl⟩
          · skip
            refine oa_v (i := 8) (listed' := #[tt,tt,tt,tt,ff,tt,tt,tt,tt,ff,ff,ff,ff,ff]) rfl rfl rfl (o_load p3 rfl sq5z (hmk.trans (by rw [hm]))) ?_; refine ta_one (i := 4) kqz ?_; refine oa_v (i := 4) (listed' := #[tt,tt,tt,tt,tt,tt,tt,tt,tt,ff,ff,ff,ff,ff]) rfl rfl rfl (o_load p69 rfl sq5z hcell) ?_; refine ta_pure (i := 9) (listed' := #[tt,tt,tt,tt,tt,tt,tt,tt,tt,tt,ff,ff,ff,ff]) rfl kqz kqz kqz rfl rfl (o_sliceLt (l := m) (h := s.ls[i].st.length) Tryz.underlying69 sz68 rfl (bnd_nat (r := m) rfl) bnd_none oqz oqz oqz) ?_; refine ta_one (i := 10) kqz ?_; refine oa_c (i := 10) (listed' := #[tt,tt,tt,tt,tt,tt,tt,tt,tt,tt,tt,ff,ff,ff]) rfl rfl rfl (o_call bd82 rfl (CloneS_f _ (s.ls[i].st.length - m) (c' - m) (stc (s.ls[i].st.drop m)) ⟨b, o + m * 8, none⟩ (rd_cells hsub) hdl hoc oqz)) ?_; rintro u40 _ rfl; refine ta_have (fun _ _ h => sl_have h) fun ⟨_, _, hu, _, _, _⟩ => ?_
            have hu1 : oneC u40 = true := by rw [hu]; rfl
            refine ta_pre (fun _ _ h => h.drop2) ?_; refine ta_pure (i := 11) (listed' := #[tt,tt,tt,tt,tt,tt,tt,tt,tt,tt,tt,tt,ff,ff]) rfl kqz kqz kqz rfl rfl (o_nilCheck rfl) ?_; refine ta_pure (i := 12) (listed' := #[tt,tt,tt,tt,tt,tt,tt,tt,tt,tt,tt,tt,tt,ff]) rfl kqz kqz kqz rfl rfl (o_fieldAddr (o := 0) Tryz.underlying71 rfl rfl sz69 rfl) ?_; refine ta_one (i := 13) kqz ?_; refine oa_u (i := 13) (listed' := #[tt,tt,tt,tt,tt,tt,tt,tt,tt,tt,tt,tt,tt,tt]) rfl rfl rfl (o_store (l := lcs svs' (mp fenceL i s.ls)) (l' := lcs (svs'.set i u40) (mp fenceL i s.ls)) sz69 rfl rfl hu1 (by rw [lcs_length hsG, hglen]; omega) (by rw [Nat.zero_add, Nat.add_zero]; exact lcs_set_sv' hsG hiG) sq8z) ?_; refine ta_done kqz ?_; refine q_then_n ?_; refine tc_reg ?_; refine tv (o_move rfl) ?_; refine tv (o_nilCheck rfl) ?_; refine tv (o_fieldAddr (o := 1) Tryz.underlying71 rfl rfl sz3 rfl) ?_; refine tl_u rfl (o_store (l := lcs (svs'.set i u40) (mp fenceL i s.ls)) (l' := lcs (svs'.set i u40) ((mp fenceL i s.ls).set i (fenceL s.ls[i]))) sz3 rfl rfl rfl (by rw [lcs_length (by rw [List.length_set]; exact hsG), hglen]; omega) (by rw [Nat.zero_add]; have := lcs_set_mark (fenceL s.ls[i]) (vs := svs'.set i u40) (by rw [List.length_set]; exact hsG) hiG; rw [hfl] at this ⊢; exact this) sq8z) ?_
            refine tl_nil ?_; refine q_block_n (q_then_n ?_); refine tc_reg ?_
            have hfin := hf2 F u40 (fenceL s.ls[i])
            have hdl2 : (s.ls[i].st.drop m).length = s.ls[i].st.length - m := List.length_drop
            rw [show (fenceL s.ls[i]).st = s.ls[i].st.drop m by rw [hfl], hdl2] at hfin
            refine tl_eq hfin ?_
            simp only [mp_set fenceL hi']
            have hsvN : (svs'.set i u40).length = s.ls.length := by rw [List.length_set]; exact hsv'
            refine tv adqz ?_; refine tv (o_move rfl) ?_; refine nq ?_; exact ⟨_, by omega, i + 1, _, by omega, rfl, hsvN, rfl, rfl, rfl, rfl⟩
        · try simp only [lv1, lv2, lv3, lv4, lv5, lv6, Bool.not_true, Bool.not_false] at h
          refine tc_skip ?_; refine q_block_n (q_then_n ?_); refine tc_reg ?_
          have hfl : fenceL s.ls[i] = s.ls[i] := by unfold fenceL; rw [if_neg oqz]
          have hun := (hf1 F).symm
          simp only [hat] at hun
          refine tl_eq hun ?_
          rw [← mp_same fenceL hi' hfl]
          have hsvN := hsv'
          refine tv adqz ?_; refine tv (o_move rfl) ?_; refine nq ?_; exact ⟨_, by omega, i + 1, _, by omega, rfl, hsvN, rfl, rfl, rfl, rfl⟩
      · try simp only [lv1, lv2, lv3, lv4, lv5, lv6, Bool.not_true, Bool.not_false] at h
        refine tc_exit ?_; refine q_then_e (q_then_e (q_block_x (q_then_n ?_))); refine sr ?_; refine tv (o_move rfl) ?_
        obtain rfl : i = s.ls.length := by omega
        rw [mp_map]
        refine tl_pre (dev_back (s := fenceS s) (fenceS_wf hw) (by simp [fenceS]; exact hsv') hkv) ?_; refine tl_c rfl (o_call bd80 rfl (done_f F d (fenceS s))) ?_; rintro _ _ ⟨rfl, rfl⟩; refine tv (o_assign rfl) ?_; refine nq ?_; refine tc_ret ?_; exact ⟨.int .i64 (doneE (fenceS s)), _, res1 rfl rfl, fun _ _ h => h, by unfold fe; rw [if_neg (by simp [ho])], by unfold fe; rw [if_neg (by simp [ho])]⟩
end Go.Vl

namespace Go.Vl
open Go Go.Proofs
def reps (zl : List Value) : Nat → List Value
  | 0 => []
  | n + 1 => zl ++ reps zl n
theorem reps_length (zl : List Value) : ∀ n, (reps zl n).length = n * zl.length
  | 0 => by simp [reps]
  | n + 1 => by rw [reps, List.length_append, reps_length zl n, Nat.add_mul]; omega
theorem reps_at (zl : List Value) (hk : 0 < zl.length) : ∀ (n j : Nat), j < n * zl.length → (reps zl n)[j]? = zl[j % zl.length]?
  | 0, j, h => by omega
  | n + 1, j, h => by
    rw [reps]
    rcases Nat.lt_or_ge j zl.length with h1 | h1
    · rw [List.getElem?_append_left h1, Nat.mod_eq_of_lt h1]
    · rw [List.getElem?_append_right h1, reps_at zl hk n (j - zl.length) (by rw [Nat.add_mul] at h; omega), Nat.mod_eq_sub_mod h1]
section
variable {P : Program} {n : Nat} {ρ : Env} {A : SP} {dst : Option Tmp} {ty : TypeId} {pos : String} {after : Array Edge} {gd : Option (Nat × Bool)}
theorem o_makeSliceK {t e : TypeId} {x y : Operand} {len cap k : Nat} {bytes : Nat} {k1 k2 : IntKind} {zl : List Value} (hu : P.underlying t = some (.slice e)) (hk : szE P e = some k) (hb : bytesE P e = some bytes) (hz : zeroE P e = some (.agg zl.toArray)) (hzl : zl.length = k) (hk0 : 0 < k)
    (hx : ev n ρ x = .int k1 len) (hy : ev n ρ y = .int k2 cap) (h1 : len ≤ cap) (h2 : cap * bytes ≤ 140737488355328) (h3 : cap ≤ 140737488355328) (h4 : 0 < cap) :
    OpX P n ρ A ⟨dst, .makeSlice t x y, ty, pos, after, gd⟩ (NewS A (reps zl cap) e len cap) := fun g w hs => by
  refine ⟨_, w.alloc (cl (reps zl cap) e), _, ?_, hs.alloc _, w.heap.size, rfl, rfl⟩
  have w1 : IntKind.i64.wrap (len : Int) = len := by rw [IntWalk.i64_in _ oqz]
  have w2 : IntKind.i64.wrap (cap : Int) = cap := by rw [IntWalk.i64_in _ oqz]
  obtain ⟨i, hi, hib⟩ := run_bytes (w := w) hb
  have p47 : (2 : Nat) ^ 47 = 140737488355328 := by decide
  have p48 : (2 : Int) ^ 48 = 281474976710656 := by decide
  simp only [execOp, hx, hy]
  rw [run_bind (w' := w.alloc (cl (reps zl cap) e)) (a := .slice (some ⟨w.heap.size, 0, none⟩) len cap)]
  · rfl
  unfold Instr.makeSlice
  rw [run_bind (run_und hu)]
  simp only []
  rw [run_bind (w' := w) (a := (len : Int)) (by rfl), run_bind (w' := w) (a := (cap : Int)) (by rfl), run_bind hi]
  simp only [w1, w2, hib, p48]
  have hcb : (bytes : Int) * (cap : Int) ≤ 140737488355328 := by
    have : (bytes : Int) * (cap : Int) = ((cap * bytes : Nat) : Int) := by rw [Nat.mul_comm]; simp
    rw [this]; omega
  rw [if_neg (by simp; omega)]
  have ask : (askRoom (((cap : Nat) : Int).toNat * bytes)).run P w = .ok () w := by
    unfold askRoom roomBytes
    rw [p47, if_neg (by simp; omega)]; rfl
  rw [run_bind ask, run_bind (run_size hk)]
  have h0 : cap * k ≠ 0 := Nat.mul_ne_zero oqz oqz
  simp only [Int.toNat_natCast, h0, if_false]
  rw [run_bind (run_zeroV hz)]
  have hrow : ((Array.range (cap * k)).map fun x => (Value.agg zl.toArray).cells[x % (Value.agg zl.toArray).cells.size]!) = (reps zl cap).toArray := by
    simp only [Value.cells]
    apply Array.ext'
    rw [Array.toList_map]
    apply List.ext_getElem?
    intro j
    simp only [Array.toList_range, List.getElem?_map, List.size_toArray]
    subst hzl
    rcases Nat.lt_or_ge j (cap * zl.length) with h | h
    · rw [reps_at zl hk0 cap j h]
      have hm : j % zl.length < zl.length := Nat.mod_lt _ hk0
      simp [h, hm]
    · rw [List.getElem?_eq_none (by simpa using h), List.getElem?_eq_none (by rw [reps_length]; exact h)]; rfl
  show (do let a ← newRow e ((Array.range (cap * k)).map fun x => (Value.agg zl.toArray).cells[x % (Value.agg zl.toArray).cells.size]!); pure (Value.slice (some a) ((len : Nat) : Int).toNat ((cap : Nat) : Int).toNat) : Sem Value).run P w = _
  rw [hrow, run_bind run_newRow]
  simp [pure, Int.toNat_natCast]
end
/-- May a device have that size? -/
def fitsB (p : Int) : Bool := decide (64 ≤ p ∧ p ≤ 4194304 ∧ p % 64 = 0)
def blank (n : Nat) : DevS := ⟨List.replicate n ⟨[], 0⟩, 0, [], 0, false⟩
def zline : LineS := ⟨[List.replicate 8 0], -1⟩
/-- A device of bytes 0. -/
def newS (n : Nat) : DevS := ⟨List.replicate n zline, 0, [], 0, false⟩
theorem zline_wf : WfL zline := ⟨by simp [zline], by simp [zline, Eight], by simp [zline], by simp [zline], by simp [zline], by simp [zline]⟩
theorem newS_wf {n : Nat} (h : 0 < n) (h2 : n ≤ 65536) : WfD (newS n) := ⟨by simpa [newS] using h, by simpa [newS] using h2, fun l hl => by
  simp only [newS, List.mem_replicate] at hl; rw [hl.2]; exact zline_wf, by simp [newS], by simp [newS], by simp [newS]⟩
theorem lcs_blank : ∀ n, lcs (List.replicate n (.slice none 0 0)) (List.replicate n ⟨[], 0⟩) = reps [.slice none 0 0, .int .i64 0] n
  | 0 => rfl
  | n + 1 => by simp only [List.replicate_succ, lcs, reps, List.cons_append, List.nil_append]; rw [lcs_blank n]
theorem linesR_blank : ∀ (n : Nat) {R : SP} {g : Gh} {w : World}, sat g w R → sat g w (R * LinesR (List.replicate n (.slice none 0 0)) (List.replicate n ⟨[], 0⟩))
  | 0, R, g, w, h => by show sat g w (R * emp); rw [star_emp]; exact h
  | n + 1, R, g, w, h => by
    simp only [List.replicate_succ, LinesR]
    rw [← star_assoc]
    exact sl_nil (k := 8) (linesR_blank n h)
theorem blank_dev {F : SP} {d bl n : Nat} {g : Gh} {w : World} (hs : sat g w (F * pt bl (cl (reps [.slice none 0 0, .int .i64 0] n) 71) * pt d (cl [.slice (some ⟨bl, 0, none⟩) n n, .int .i64 0, .slice none 0 0, .int .i64 0, .bool false] 64))) :
    sat g w (F * DevC d bl (List.replicate n (.slice none 0 0)) (.slice none 0 0) [] (blank n)) := by
  rw [devC_eq]
  unfold ArmsR
  have h1 := sl_nil (k := 2) (linesR_blank n hs)
  rw [← lcs_blank] at h1
  refine h1.perm ?_
  simp only [blank, dcs, List.length_replicate, acs, KeepsR, List.length_nil, star_emp]
  ac_rfl
theorem mp_blank (n : Nat) : mp (fun _ => zline) n (List.replicate n ⟨[], 0⟩) = (newS n).ls := by
  have := mp_map (fun _ => zline) (List.replicate n ⟨[], 0⟩)
  rw [List.length_replicate] at this
  rw [this]; simp [newS]
theorem fits_f (A : SP) (p : Int) (hp : -9223372036854775808 ≤ p ∧ p ≤ 9223372036854775807) :
    Fn Tryz.prog 55 #[.int .i64 p] (A) (fun r B => r = .bool (fitsB p) ∧ A = B) := by
  refine fn_enter (args := [.int .i64 p]) Tryz.func55 rfl Tryz.ntmps55 (by simp) ?_; refine sr ?_; refine tv (o_assign rfl) ?_; refine nq ?_; refine sr ?_; refine tv (o_move rfl) ?_; refine tv (o_geq rfl rfl) ?_; refine tv (o_move rfl) ?_; refine tl_bool (d := 5) rfl (fun h => ?_) (fun h => ?_)
  · try simp only [lv1, lv2, lv3, lv4, lv5, lv6, Bool.not_true, Bool.not_false] at h
    refine tv (o_move rfl) ?_; refine tv (o_leq rfl rfl) ?_; refine tv (by first | exact o_pick_t rfl rfl | exact o_pick_f rfl rfl | exact o_pick rfl rfl) ?_; refine tv (o_move rfl) ?_; refine tl_bool (d := 9) rfl (fun h => ?_) (fun h => ?_)
    · try simp only [lv1, lv2, lv3, lv4, lv5, lv6, Bool.not_true, Bool.not_false] at h
      refine tv (o_move rfl) ?_; refine tv (o_remI rfl rfl oqz) ?_; refine tv (o_eqi rfl rfl) ?_; refine tv (by first | exact o_pick_t rfl rfl | exact o_pick_f rfl rfl | exact o_pick rfl rfl) ?_; refine tv (o_assign rfl) ?_; refine nq ?_; refine tc_ret ?_; exact ⟨.bool (decide (p % 64 = 0)), res1 rfl rfl, by unfold fitsB; congr 1; rw [decide_eq_decide]; omega, rfl⟩
    · try simp only [lv1, lv2, lv3, lv4, lv5, lv6, Bool.not_true, Bool.not_false] at h
      refine tk ?_; refine tk ?_; refine tk ?_; refine tv (by first | exact o_pick_t rfl rfl | exact o_pick_f rfl rfl | exact o_pick rfl rfl) ?_; refine tv (o_assign rfl) ?_; refine nq ?_; refine tc_ret ?_; exact ⟨.bool false, res1 rfl rfl, by unfold fitsB; rw [decide_eq_false oqz], rfl⟩
  · try simp only [lv1, lv2, lv3, lv4, lv5, lv6, Bool.not_true, Bool.not_false] at h
    refine tk ?_; refine tk ?_; refine tv (by first | exact o_pick_t rfl rfl | exact o_pick_f rfl rfl | exact o_pick rfl rfl) ?_; refine tv (o_move rfl) ?_; refine tk ?_; refine tk ?_; refine tk ?_; refine tv (by first | exact o_pick_t rfl rfl | exact o_pick_f rfl rfl | exact o_pick rfl rfl) ?_; refine tv (o_assign rfl) ?_; refine nq ?_; refine tc_ret ?_; exact ⟨.bool false, res1 rfl rfl, by unfold fitsB; rw [decide_eq_false oqz], rfl⟩
theorem New_f (F : SP) (n : Nat) (hn : 0 < n) (hn2 : n ≤ 65536) :
    Fn Tryz.prog 19 #[.int .i64 ((n * 64 : Nat) : Int)] (F) (fun r B => ∃ d, r = .tuple #[.pointer (some ⟨d, 0, none⟩), .int .i64 0] ∧ B = F * Dev d (newS n)) := by
  refine fn_enterW (args := [.int .i64 ((n * 64 : Nat) : Int)]) Tryz.func19 rfl Tryz.ntmps19 (by simp) ?_
  have hfit : fitsB ((n * 64 : Nat) : Int) = true := by unfold fitsB; simp; omega
  refine sr ?_; refine tv (o_assign rfl) ?_; refine tv (o_assign rfl) ?_; refine nq ?_; refine tc_seq ?_; refine sr ?_; refine tv (o_move rfl) ?_; refine tl_c rfl (o_call bd55 rfl (fits_f F _ oqz)) ?_; rintro _ _ ⟨rfl, rfl⟩; refine tv (o_not rfl) ?_; refine nq ?_; refine tc_cond rfl (fun h => ?_) (fun h => ?_)
  · exfalso; rw [hfit] at h; exact absurd h (by decide)
  · try simp only [lv1, lv2, lv3, lv4, lv5, lv6, Bool.not_true, Bool.not_false] at h
    refine tc_skip ?_; refine q_then_n ?_; refine sr ?_; refine tv (o_move rfl) ?_; refine tv (o_quoN (a := n * 64) (b := 64) rfl rfl oqz) ?_; refine tl_env (d := 10) (v := .int .i64 (n : Nat)) (by show Value.int .i64 ((n * 64 / 64 : Nat) : Int) = _; rw [Nat.mul_div_cancel _ (by decide)]) ?_; refine tl_x rfl (o_makeSliceK (len := n) (cap := n) Tryz.underlying62 sz71 by71 z71 rfl (by decide) rfl rfl oqz oqz oqz hn) ?_; rintro _ _ ⟨b11, rfl, rfl⟩; refine tv (o_buildS Tryz.underlying64 z64 (pl64 Tryz.underlying64) rfl rfl) ?_; refine tl_x rfl (o_box rfl rfl) ?_; rintro _ _ ⟨b13, rfl, rfl⟩; refine tl_pre (fun _ _ h => blank_dev h) ?_; refine tv (o_assign rfl) ?_; refine nq ?_; refine tc_seq ?_; refine sr ?_; refine tv (o_move rfl) ?_; refine tv (o_nilCheck rfl) ?_; refine tv (o_fieldAddr (o := 0) Tryz.underlying64 rfl rfl sz62 rfl) ?_; refine tv (o_load p62 rfl devC_d rfl) ?_; refine tv (o_len Tryz.underlying62 rfl) ?_; refine tv (o_move rfl) ?_; refine nq ?_; refine tc_block ?_; refine tc_loop (fun k ρ B => ∃ (i : Nat) (svs' : List Value), i ≤ n ∧ k = n - i ∧ svs'.length = n ∧ ρ 4 = .pointer (some ⟨b13, 0, none⟩) ∧ ρ 18 = .int .i64 n ∧ ρ 19 = .int .i64 i ∧ B = F * DevC b13 b11 svs' (.slice none 0 0) [] { blank n with ls := mp (fun _ => zline) i (blank n).ls }) (m := n) ?_ ?_
    · exact ⟨0, List.replicate n (.slice none 0 0), by omega, rfl, by simp, rfl, by show Value.int .i64 ((List.replicate n (⟨[], 0⟩ : LineS)).length : Int) = _; rw [List.length_replicate], rfl, by rw [mp_zero]⟩
    · intro k ρ B hI
      obtain ⟨i, svs', hi, rfl, hsv', h4, h18, h19, rfl⟩ := hI
      refine tc_env (d := 4) h4 ?_; refine tc_env (d := 18) h18 ?_; refine tc_env (d := 19) h19 ?_; refine sr ?_; refine tv (o_lss rfl rfl) ?_; refine nq ?_; refine tc_seq ?_; refine tc_cond rfl (fun h => ?_) (fun h => ?_)
      · simp only [decide_eq_true_eq] at h
        have hi' : i < (blank n).ls.length := by simp [blank]; omega
        have hbl : (blank n).ls.length = n := by simp [blank]
        have hglen : (mp (fun _ => zline) i (blank n).ls).length = n := by rw [mp_length, hbl]
        have hiG : i < (mp (fun _ => zline) i (blank n).ls).length := by omega
        have hsG : svs'.length = (mp (fun _ => zline) i (blank n).ls).length := by omega
        obtain ⟨R, hf1, hf2⟩ := devC_focus (d := b13) (bl := b11) (kvs := []) (av := .slice none 0 0) (s := { blank n with ls := mp (fun _ => zline) i (blank n).ls }) hsG hiG
        refine tc_eq (hf1 F) ?_
        simp only [hglen]
        refine tc_skip ?_; refine q_then_n ?_; refine tc_seq ?_; refine tc_block ?_; refine sr ?_; refine tv (o_move rfl) ?_; refine tv (o_assign rfl) ?_; refine nq ?_; refine tc_reg ?_; refine tv (o_move rfl) ?_; refine tv (o_nilCheck rfl) ?_; refine tv (o_fieldAddr (o := 0) Tryz.underlying64 rfl rfl sz62 rfl) ?_; refine tv (o_load p62 rfl sq5z rfl) ?_; refine tv (o_move rfl) ?_; refine tv (o_buildA (vs := []) Tryz.underlying68 sz66 z68 rfl rfl rfl (Nat.zero_le _) rfl) ?_; refine tl_x rfl (o_buildSliceK (l := wds (List.replicate 8 0)) Tryz.underlying69 sz68 z68 rfl rfl (by decide)) ?_; rintro _ _ ⟨b28, rfl, rfl⟩; refine tv (o_buildS (l := [.slice (some ⟨b28, 0, none⟩) 1 1, .int .i64 (-1)]) Tryz.underlying71 z71 (pl71 Tryz.underlying71) rfl rfl) ?_; refine tv (o_indexAddrN (j := i) Tryz.underlying62 sz71 rfl rfl oqz) ?_; refine tl_u rfl (o_storeN (l := lcs svs' (mp (fun _ => zline) i (blank n).ls)) (l' := lcs (svs'.set i (.slice (some ⟨b28, 0, none⟩) 1 1)) ((mp (fun _ => zline) i (blank n).ls).set i zline)) sz71 rfl rfl rfl rfl (by rw [lcs_length hsG, hglen]; omega) (by rw [Nat.zero_add]; exact lcs_set (l := zline) hsG hiG) sq8z) ?_
        refine tl_pre (fun _ _ h => h.newline (by rfl)) ?_
        have hfin := hf2 F (.slice (some ⟨b28, 0, none⟩) 1 1) zline
        simp only [hglen] at hfin
        refine tl_eq hfin ?_
        simp only [mp_set (fun _ => zline) hi']
        refine tl_nil ?_; refine q_block_n (q_then_n ?_); refine tc_reg ?_; refine tv adqz ?_; refine tv (o_move rfl) ?_; refine nq ?_; exact ⟨_, by omega, i + 1, _, by omega, rfl, by rw [List.length_set]; exact hsv', rfl, rfl, rfl, rfl⟩
      · try simp only [lv1, lv2, lv3, lv4, lv5, lv6, Bool.not_true, Bool.not_false] at h
        refine tc_exit ?_; refine q_then_e (q_then_e (q_block_x (q_then_n ?_))); refine sr ?_; refine tv (o_move rfl) ?_; refine tv (o_assign rfl) ?_; refine tv (o_assign rfl) ?_; refine nq ?_; refine tc_ret ?_
        obtain rfl : i = n := by omega
        exact ⟨.tuple #[.pointer (some ⟨b13, 0, none⟩), .int .i64 0], _, res2 rfl rfl rfl, fun g w h => dev_back (s := newS i) (newS_wf hn hn2) (by simp [newS]; exact hsv') rfl g w (h.perm (by show F * DevC b13 b11 svs' _ [] { blank i with ls := mp (fun _ => zline) i (List.replicate i ⟨[], 0⟩) } = _; rw [mp_blank]; rfl)), _, rfl, rfl⟩
end Go.Vl

namespace Go.Vl
open Go Go.Proofs
theorem within_neg {a n : Int} (hn : 0 < n) (h : a.tmod n < 0) : a.tmod n + n = a % n := by
  have e := Int.tmod_eq_emod (a := a) (b := n)
  have h1 := Int.emod_nonneg a (show n ≠ 0 by omega)
  split at e <;> omega
theorem within_pos {a n : Int} (hn : 0 < n) (h : ¬ a.tmod n < 0) : a.tmod n = a % n := by
  have e := Int.tmod_eq_emod (a := a) (b := n)
  have h1 := Int.emod_lt_of_pos a hn
  split at e <;> omega
theorem tmod_lt' {a n : Int} (hn : 0 < n) : -n < a.tmod n ∧ a.tmod n < n := by
  have e := Int.tmod_eq_emod (a := a) (b := n)
  have h1 := Int.emod_nonneg a (show n ≠ 0 by omega)
  have h2 := Int.emod_lt_of_pos a hn
  split at e
  · omega
  · rename_i hx
    have : a % n ≠ 0 := fun h0 => hx (.inr (Int.dvd_of_emod_eq_zero h0))
    omega
theorem CopyInts_f (A : SP) (a : Option Addr) (c : Nat) (xs : List Int) (hr : Rd A a (ints xs)) (hl : xs.length ≤ 17592186044416) :
    Fn Tryz.prog 43 #[.slice a xs.length c] (A) (fun r B => B = A * Sl 1 r xs.length (ints xs)) := by
  refine fn_enter (args := [.slice a xs.length c]) Tryz.func43 rfl Tryz.ntmps43 (by simp) ?_; refine sr ?_; refine tv (o_assign rfl) ?_; refine nq ?_; refine sr ?_; refine tv (o_assign rfl) ?_; refine nq ?_; refine tc_seq ?_; refine sr ?_; refine tl_pre (fun _ _ h => sl_nil (k := 1) h) ?_; refine tv (o_assign rfl) ?_; refine nq ?_; refine tc_block ?_; refine tc_loop (fun k ρ B => ∃ (i : Nat) (v : Value), i ≤ xs.length ∧ k = xs.length - i ∧ ρ 0 = .slice a xs.length c ∧ ρ 3 = v ∧ ρ 4 = .int .i64 (i : Nat) ∧ B = A * Sl 1 v i (ints (xs.take i))) (m := xs.length) ?_ ?_
  · exact ⟨0, .slice none 0 0, by omega, rfl, rfl, rfl, rfl, rfl⟩
  · intro k ρ B hI
    obtain ⟨i, v, hi, rfl, h0, h3, h4, rfl⟩ := hI
    refine tc_env (d := 0) h0 ?_; refine tc_env (d := 3) h3 ?_; refine tc_env (d := 4) h4 ?_; refine tc_seq ?_; refine sr ?_; refine tv (o_move rfl) ?_; refine tv (o_move rfl) ?_; refine tv (o_len Tryz.underlying48 rfl) ?_; refine tv (o_lss rfl rfl) ?_; refine nq ?_; refine tc_cond rfl (fun h => ?_) (fun h => ?_)
    · simp only [decide_eq_true_eq] at h
      have hi' : i < xs.length := by omega
      obtain ⟨b, o, rfl, hc⟩ := hr.some (by rw [ints_length]; omega)
      have g1 := hc i _ (ints_at hi')
      refine tc_skip ?_; refine q_then_n ?_; refine tc_seq ?_; refine tc_block ?_; refine tc_reg ?_; refine tv (o_move rfl) ?_; refine tv (o_move rfl) ?_; refine tv (o_move rfl) ?_; refine tv (o_indexAddrN1 (j := i) Tryz.underlying48 sz3 rfl rfl oqz) ?_; refine tv (o_loadC p3 rfl g1.left) ?_; refine tl_x rfl (o_buildSlice1 (v := .int .i64 xs[i]) Tryz.underlying48 sz3 z3 rfl rfl) ?_; rintro _ _ ⟨b16, rfl, rfl⟩; refine tl_x rfl (o_append1 Tryz.underlying48 Tryz.underlying48 sz3 by3 z3 rfl (by decide) (by decide) rfl rfl rfl rfl rfl oqz) ?_; rintro u17 _ rfl; refine tv (o_assign rfl) ?_; refine tl_nil ?_; refine q_block_n (q_then_n ?_); refine tc_reg ?_; refine tv (o_move rfl) ?_; refine tv adqz ?_; refine tv (o_assign rfl) ?_; refine nq ?_; exact ⟨_, by omega, i + 1, u17, by omega, rfl, rfl, rfl, rfl, by rw [List.take_succ_eq_append_getElem hi']; unfold ints; rw [List.map_append]; rfl⟩
    · try simp only [lv1, lv2, lv3, lv4, lv5, lv6, Bool.not_true, Bool.not_false] at h
      refine tc_exit ?_; refine q_then_e (q_then_e (q_block_x (q_then_n ?_))); refine sr ?_; refine tv (o_move rfl) ?_; refine tv (o_assign rfl) ?_; refine nq ?_; refine tc_ret ?_
      obtain rfl : i = xs.length := by omega
      rw [List.take_length]
      exact ⟨v, res1 rfl rfl, rfl⟩
end Go.Vl

namespace Go.Vl
open Go Go.Proofs
section
variable {F : SP} {d : Nat} {s : DevS}
theorem OpsD_f : Fn Tryz.prog 12 #[.pointer (some ⟨d, 0, none⟩)] (F * Dev d s) (fun r B => r = .int .i64 s.ops ∧ F * Dev d s = B) :=
  fn_devR0 fun _ A bl svs av hR => Ops_f A d bl s.ls.length s av hR.d hR.wf.pos hR.wf.top
theorem OffD_f : Fn Tryz.prog 13 #[.pointer (some ⟨d, 0, none⟩)] (F * Dev d s) (fun r B => r = .bool s.off ∧ F * Dev d s = B) :=
  fn_devR0 fun _ A bl svs av hR => Off_f A d bl s.ls.length s av hR.d hR.wf.pos hR.wf.top
theorem ImageD_f : Fn Tryz.prog 15 #[.pointer (some ⟨d, 0, none⟩)] (F * Dev d s) (fun r B => ∃ X, B = F * Dev d s * X ∧ X = Sl 1 r (s.ls.length * 64) (bys (imgS s))) :=
  fn_devR fun _ A bl svs av hR => Image_f A d bl svs av s hR
theorem LoadD_f {p m : Nat} {W : List Nat} (hoff : s.off = false) (hpm : p + m ≤ s.ls.length * 64) (hW : W = ((imgS s).drop p).take m) :
    Fn Tryz.prog 27 #[.pointer (some ⟨d, 0, none⟩), .int .i64 (p : Nat), .int .i64 (m : Nat)] (F * Dev d s) (fun r B => ∃ X, B = F * Dev d s * X ∧ ∃ u, r = .tuple #[u, .int .i64 0] ∧ X = Sl 1 u m (bys W)) :=
  fn_devR fun _ A bl svs av hR => Load_f A d bl svs av s p m W hR hoff hpm hW
end
def aw1 : DevS := (st8 0 257 (newS 2)).2
def aw2 : DevS := (fl1 3 aw1).2
def aw3 : DevS := (st8 8 5 aw2).2
def aw4 : DevS := (fe aw3).2
def aw5 : DevS := goesS [] aw4
def aw6 : DevS := { aw5 with off := false }
def awB : List Nat := [1, 1, 0, 0, 0, 0, 0, 0, 0, 0, 0, 0, 0, 0, 0, 0]
end Go.Vl

namespace Go.Vl
open Go Go.Proofs
/-- A device and its book. -/
structure PlS where
  s : DevS
  seen : List Nat
  held : List (List Nat)
  last : List Nat
  sure : List Bool
  marks : List Int
def wi (p : Int) (n : Nat) : Nat := (p % (n : Int)).toNat
def lastF (marks : List Int) (seen : List Nat) : Nat → Nat → Nat := fun i x => if marks.getD (i / 8) 0 = 1 then seen.getD i 0 else x
def sureF (marks : List Int) : Nat → Bool → Bool := fun i x => if marks.getD (i / 8) 0 = 1 then true else x
/-- One step without a loss of power, told. -/
def stepP (k p : Int) (v : Nat) (P : PlS) : Bool × PlS :=
  if k = 2 ∨ k = 3 then
    (decide ((st8 ((8 * wi p P.seen.length : Nat) : Int) v P.s).1 = 0), ⟨(st8 ((8 * wi p P.seen.length : Nat) : Int) v P.s).2, P.seen.set (wi p P.seen.length) v, P.held.set (wi p P.seen.length) (P.held.getD (wi p P.seen.length) [] ++ [v]), P.last,
      P.sure.set (wi p P.seen.length) false, if P.marks.getD (wi p P.seen.length / 8) 0 = 1 then P.marks.set (wi p P.seen.length / 8) 2 else P.marks⟩)
  else if k = 4 then (decide ((fl1 ((8 * wi p P.seen.length : Nat) : Int) P.s).1 = 0), { P with s := (fl1 ((8 * wi p P.seen.length : Nat) : Int) P.s).2, marks := P.marks.set (wi p P.seen.length / 8) 1 })
  else if k = 5 then (decide ((fe P.s).1 = 0), { P with s := (fe P.s).2, last := pm (lastF P.marks P.seen) P.seen.length P.last, sure := pm (sureF P.marks) P.seen.length P.sure, marks := pm (fun _ _ => 0) P.marks.length P.marks })
  else (true, P)
/-- The book's own cells. -/
def pcs (d : Nat) (sv hv lv uv mv : Value) : List Value := [.pointer (some ⟨d, 0, none⟩), sv, hv, lv, uv, mv]
structure WfP (r : Nat) (P : PlS) : Prop where
  pos : 0 < P.marks.length
  top : P.marks.length ≤ 4
  ls : P.s.ls.length = P.marks.length
  seen : P.seen.length = 8 * P.marks.length
  held : P.held.length = 8 * P.marks.length
  last : P.last.length = 8 * P.marks.length
  sure : P.sure.length = 8 * P.marks.length
  room : Room r P.s
  hroom : ∀ l ∈ P.held, l.length + r ≤ 2199023255552
end Go.Vl

namespace Go.Vl
open Go Go.Proofs
/-- No loss of power is planned, and none was. -/
structure Live (s : DevS) : Prop where
  off : s.off = false
  arms : s.arms = []
theorem onLine_fields (f : LineS → LineS) (i : Nat) (s : DevS) : (onLine f i s).ops = s.ops ∧ (onLine f i s).arms = s.arms ∧ (onLine f i s).cnt = s.cnt ∧ (onLine f i s).off = s.off ∧ (onLine f i s).ls.length = s.ls.length := by
  unfold onLine; split <;> simp
theorem rdy_ok {n : Nat} {p m : Int} (hp : 0 ≤ p) (hm : 0 ≤ m) (h : p + m ≤ n * 64) : rdy n false p m = 0 := by
  unfold rdy; rw [if_neg (by simp), if_neg oqz]
theorem onLine_room {f : LineS → LineS} {i r : Nat} {s : DevS} (h : Room (r + 1) s) (hf : ∀ l, (f l).st.length ≤ l.st.length + 1) : Room r (onLine f i s) := by
  unfold onLine
  cases e : s.ls[i]? with
  | none => exact fun l hl => by have := h l hl; omega
  | some l =>
    intro x hx
    rcases List.mem_or_eq_of_mem_set hx with h1 | rfl
    · have := h x h1; omega
    · have := h l (List.mem_of_getElem? e); have := hf l; omega
/-- A step's cells. -/
structure StepC where
  k : Int
  q : Int
  nv : Value
  v : Nat
  dv : Value
  kv : Value
  av : Value
def StepC.cells (t : StepC) : List Value := [.int .i64 t.k, .int .i64 t.q, t.nv, .int .u64 (t.v : Nat), t.dv, t.kv, t.av]
def scs (l : List StepC) : List Value := l.flatMap StepC.cells
def playL (l : List StepC) (P : PlS) : PlS := l.foldl (fun P t => (stepP t.k t.q t.v P).2) P
def begS (n : Nat) : PlS := ⟨newS n, List.replicate (8 * n) 0, List.replicate (8 * n) [0], List.replicate (8 * n) 0, List.replicate (8 * n) true, List.replicate n 0⟩
end Go.Vl

namespace Go.Vl
open Go Go.Proofs
/-- Lists of bytes, to be read. -/
def RdRows (A : SP) (a : Option Addr) (ls : List (List Nat)) : Prop := ∃ vs : List Value, vs.length = ls.length ∧ Rd A a vs ∧ ∀ i (h : i < ls.length), ∃ b c, vs[i]? = some (.slice b ls[i].length c) ∧ Rd A b (bys ls[i])
theorem RdRows.left {A X : SP} {a : Option Addr} {ls : List (List Nat)} (h : RdRows A a ls) : RdRows (A * X) a ls := by
  obtain ⟨vs, h1, h2, h3⟩ := h
  exact ⟨vs, h1, h2.left, fun i hi => by obtain ⟨b, c, e, hr⟩ := h3 i hi; exact ⟨b, c, e, hr.left⟩⟩
theorem RdRows.pre {A B : SP} {a : Option Addr} {ls : List (List Nat)} (h : RdRows A a ls) (k : ∀ g w, sat g w B → sat g w A) : RdRows B a ls := by
  obtain ⟨vs, h1, h2, h3⟩ := h
  exact ⟨vs, h1, h2.pre k, fun i hi => by obtain ⟨b, c, e, hr⟩ := h3 i hi; exact ⟨b, c, e, hr.pre k⟩⟩
theorem parts_get : ∀ {vs : List Value} {ls : List (List Nat)} {i : Nat} (h : vs.length = ls.length) (hi : i < ls.length),
    ∃ R, Parts vs ls = R * Sl 1 (vs[i]'oqz) ls[i].length (bys ls[i]) ∧ ∀ v l, Parts (vs.set i v) (ls.set i l) = R * Sl 1 v l.length (bys l)
  | [], [], _, _, hi => by simp at hi
  | v :: vs, l :: ls, 0, h, _ => ⟨Parts vs ls, rfl, fun _ _ => rfl⟩
  | v :: vs, l :: ls, i + 1, h, hi => by
    obtain ⟨R, h1, h2⟩ := parts_get (vs := vs) (ls := ls) (i := i) (by simpa using h) (by simpa using hi)
    refine ⟨R * Sl 1 v l.length (bys l), ?_, fun u m => ?_⟩
    · simp only [Parts, List.getElem_cons_succ]; rw [h1, star_swap]
    · simp only [List.set_cons_succ, Parts]; rw [h2, star_swap]
theorem Foc.parts {A A' : SP} {hvs : List Value} {held : List (List Nat)} (h : Foc A (Parts hvs held) (Parts hvs held) A') (hl : hvs.length = held.length) {g : Gh} {w : World} (hs : sat g w A) :
    ∀ i (hi : i < held.length), ∃ a c, hvs[i]? = some (.slice a held[i].length c) ∧ held[i].length ≤ c ∧ Rd (Parts hvs held) a (bys held[i]) := fun i hi => by
  obtain ⟨R, rfl, _⟩ := h
  obtain ⟨S, h1, _⟩ := parts_get hl hi
  have hs2 := hs.right
  obtain ⟨a, c, e, hle, _, hr⟩ := sl_have' h1 hs2
  exact ⟨a, c, by rw [List.getElem?_eq_getElem oqz, e], hle, hr⟩
end Go.Vl

namespace Go.Vl
open Go Go.Proofs
theorem slb_snoc {A : SP} {u : Value} {l : List Nat} {x : Nat} : A * Sl 1 u (l.length + 1) (bys l ++ [.int .u8 (x : Int)]) = A * Sl 1 u (l ++ [x]).length (bys (l ++ [x])) := by
  rw [bys_append, List.length_append]; rfl
theorem CopyBytes_f (A : SP) (a : Option Addr) (c : Nat) (xs : List Nat) (hr : Rd A a (bys xs)) (hl : xs.length ≤ 140737488351232) :
    Fn Tryz.prog 6 #[.slice a xs.length c] (A) (fun r B => B = A * Sl 1 r xs.length (bys xs)) := by
  refine fn_enter (args := [.slice a xs.length c]) Tryz.func6 rfl Tryz.ntmps6 (by simp) ?_; refine sr ?_; refine tv (o_assign rfl) ?_; refine nq ?_; refine sr ?_; refine tv (o_move rfl) ?_; refine tv (o_len Tryz.underlying22 rfl) ?_; refine tl_x rfl (o_makeSlice (len := 0) (cap := xs.length) Tryz.underlying22 sz5 by5 z5 rfl rfl rfl oqz oqz oqz) ?_; rintro _ _ ⟨b7, rfl, rfl⟩; refine tl_pre (fun _ _ h => sl_new (k := 1) (n := 0) (cap := xs.length) (xs := []) h oqz (by simp) (by simp)) ?_; refine tv (o_assign rfl) ?_; refine nq ?_; refine tc_seq ?_; refine sr ?_; refine tv (o_assign rfl) ?_; refine nq ?_; refine tc_block ?_; refine tc_loop (fun kk ρ BB => ∃ (i : Nat) (v : Value), (i ≤ xs.length) ∧ kk = xs.length - i ∧ ρ 0 = .slice a xs.length c ∧ ρ 3 = v ∧ ρ 4 = .int .i64 (i : Nat) ∧ BB = A * Sl 1 v (xs.take i).length (bys (xs.take i))) (m := xs.length - (0)) ?_ ?_
  · exact ⟨0, _, by omega, rfl, rfl, rfl, rfl, rfl⟩
  · intro k ρ B hI
    obtain ⟨i, v, hp0, rfl, hs0, hs3, hs4, rfl⟩ := hI
    refine tc_env (d := 0) hs0 ?_; refine tc_env (d := 3) hs3 ?_; refine tc_env (d := 4) hs4 ?_; refine tc_seq ?_; refine sr ?_; refine tv (o_move rfl) ?_; refine tv (o_move rfl) ?_; refine tv (o_len Tryz.underlying22 rfl) ?_; refine tv (o_lss rfl rfl) ?_; refine nq ?_; refine tc_cond rfl (fun h => ?_) (fun h => ?_)
    · simp only [decide_eq_true_eq] at h
      have hi' : i < xs.length := by omega
      obtain ⟨b, o, rfl, hc⟩ := hr.some (by rw [bys_length]; omega)
      have g1 := hc i _ (bys_at hi')
      refine tc_skip ?_; refine q_then_n ?_; refine tc_seq ?_; refine tc_block ?_; refine tc_reg ?_; refine tv (o_move rfl) ?_; refine tv (o_move rfl) ?_; refine tv (o_move rfl) ?_; refine tv (o_indexAddrN1 (j := i) Tryz.underlying22 sz5 rfl rfl oqz) ?_; refine tv (o_loadC p5 rfl g1.left) ?_; refine tl_x rfl (o_buildSlice1 (v := .int .u8 (xs[i] : Nat)) Tryz.underlying22 sz5 z5 rfl rfl) ?_; rintro _ _ ⟨b19, rfl, rfl⟩; refine tl_x rfl (o_append1 Tryz.underlying22 Tryz.underlying22 sz5 by5 z5 rfl (by decide) (by decide) rfl rfl rfl rfl rfl (by rw [List.length_take]; omega)) ?_; rintro u20 _ rfl; refine tv (o_assign rfl) ?_; refine tl_nil ?_; refine q_block_n (q_then_n ?_); refine tc_reg ?_; refine tv (o_move rfl) ?_; refine tv adqz ?_; refine tv (o_assign rfl) ?_; refine nq ?_; exact ⟨_, by omega, i + 1, u20, by omega, rfl, rfl, rfl, rfl, by rw [List.take_succ_eq_append_getElem hi', ← slb_snoc]⟩
    · try simp only [lv1, lv2, lv3, lv4, lv5, lv6, Bool.not_true, Bool.not_false] at h
      refine tc_exit ?_; refine q_then_e (q_then_e (q_block_x (q_then_n ?_))); refine sr ?_; refine tv (o_move rfl) ?_; refine tv (o_assign rfl) ?_; refine nq ?_; refine tc_ret ?_
      obtain rfl : i = xs.length := by omega
      rw [List.take_length]
      exact ⟨v, res1 rfl rfl, rfl⟩
theorem Join_f (A : SP) (a : Option Addr) (c : Nat) (ls : List (List Nat)) (hr : RdRows A a ls) (hl : ls.flatten.length ≤ 17592186044416) (hl2 : ls.length ≤ 17592186044416) :
    Fn Tryz.prog 104 #[.slice a ls.length c] (A) (fun r B => B = A * Sl 1 r ls.flatten.length (bys ls.flatten)) := by
  refine fn_enter (args := [.slice a ls.length c]) Tryz.func104 rfl Tryz.ntmps104 (by simp) ?_
  obtain ⟨vs, hvl, hra, hrows⟩ := hr
  refine sr ?_; refine tv (o_assign rfl) ?_; refine nq ?_; refine sr ?_; refine tv (o_assign rfl) ?_; refine nq ?_; refine tc_seq ?_; refine sr ?_; refine tl_pre (fun _ _ h => sl_nil (k := 1) h) ?_; refine tv (o_assign rfl) ?_; refine nq ?_; refine tc_block ?_; refine tc_loop (fun kk ρ BB => ∃ (i : Nat) (v : Value), (i ≤ ls.length) ∧ kk = ls.length - i ∧ ρ 0 = .slice a ls.length c ∧ ρ 3 = v ∧ ρ 4 = .int .i64 (i : Nat) ∧ BB = A * Sl 1 v (ls.take i).flatten.length (bys (ls.take i).flatten)) (m := ls.length - (0)) ?_ ?_
  · exact ⟨0, _, by omega, rfl, rfl, rfl, rfl, rfl⟩
  · intro k ρ B hI
    obtain ⟨i, v, hp0, rfl, hs0, hs3, hs4, rfl⟩ := hI
    refine tc_env (d := 0) hs0 ?_; refine tc_env (d := 3) hs3 ?_; refine tc_env (d := 4) hs4 ?_; refine tc_seq ?_; refine sr ?_; refine tv (o_move rfl) ?_; refine tv (o_move rfl) ?_; refine tv (o_len Tryz.underlying75 rfl) ?_; refine tv (o_lss rfl rfl) ?_; refine nq ?_; refine tc_cond rfl (fun h => ?_) (fun h => ?_)
    · simp only [decide_eq_true_eq] at h
      have hi' : i < ls.length := by omega
      obtain ⟨b, o, rfl, hc⟩ := hra.some oqz
      obtain ⟨bi, ci, e1, hri⟩ := hrows i hi'
      have g1 := hc i _ e1
      have hfl : (ls.take i).flatten.length + ls[i].length ≤ ls.flatten.length := by
        have e := List.take_append_drop i ls
        have e2 : ls.flatten.length = (ls.take i).flatten.length + (ls.drop i).flatten.length := by rw [← List.length_append, ← List.flatten_append, e]
        rw [e2, List.drop_eq_getElem_cons hi', List.flatten_cons, List.length_append]; omega
      refine tc_skip ?_; refine q_then_n ?_; refine tc_seq ?_; refine tc_block ?_; refine sr ?_; refine tv (o_assign rfl) ?_; refine nq ?_; refine tc_block ?_; refine tc_loop (fun kk ρ BB => ∃ (j : Nat) (u : Value), (j ≤ ls[i].length) ∧ kk = ls[i].length - j ∧ ρ 0 = .slice (some ⟨b, o, none⟩) ls.length c ∧ ρ 3 = u ∧ ρ 4 = .int .i64 (i : Nat) ∧ ρ 5 = .int .i64 (j : Nat) ∧ BB = A * Sl 1 u ((ls.take i).flatten ++ ls[i].take j).length (bys ((ls.take i).flatten ++ ls[i].take j))) (m := ls[i].length - (0)) ?_ ?_
      · exact ⟨0, v, by omega, rfl, rfl, rfl, rfl, rfl, by rw [List.take_zero, List.append_nil]⟩
      · intro k ρ B hI
        obtain ⟨j, u, hp0, rfl, hs0, hs3, hs4, hs5, rfl⟩ := hI
        refine tc_env (d := 0) hs0 ?_; refine tc_env (d := 3) hs3 ?_; refine tc_env (d := 4) hs4 ?_; refine tc_env (d := 5) hs5 ?_; refine tc_seq ?_; refine sr ?_; refine tv (o_move rfl) ?_; refine tv (o_move rfl) ?_; refine tv (o_move rfl) ?_; refine tv (o_indexAddrN1 (j := i) Tryz.underlying75 sz22 rfl rfl oqz) ?_; refine tv (o_loadC p22 rfl g1.left) ?_; refine tv (o_len Tryz.underlying22 rfl) ?_; refine tv (o_lss rfl rfl) ?_; refine nq ?_; refine tc_cond rfl (fun h => ?_) (fun h => ?_)
        · simp only [decide_eq_true_eq] at h
          have hj' : j < ls[i].length := by omega
          obtain ⟨bb, oo, rfl, hcc⟩ := hri.some (by rw [bys_length]; omega)
          have g2 := hcc j _ (bys_at hj')
          refine tc_skip ?_; refine q_then_n ?_; refine tc_seq ?_; refine tc_block ?_; refine tc_reg ?_; refine tv (o_move rfl) ?_; refine tv (o_move rfl) ?_; refine tv (o_move rfl) ?_; refine tv (o_indexAddrN1 (j := i) Tryz.underlying75 sz22 rfl rfl oqz) ?_; refine tv (o_loadC p22 rfl g1.left) ?_; refine tv (o_move rfl) ?_; refine tv (o_indexAddrN1 (j := j) Tryz.underlying22 sz5 rfl rfl oqz) ?_; refine tv (o_loadC p5 rfl g2.left) ?_; refine tl_x rfl (o_buildSlice1 (v := .int .u8 (ls[i][j] : Nat)) Tryz.underlying22 sz5 z5 rfl rfl) ?_; rintro _ _ ⟨b29, rfl, rfl⟩; refine tl_x rfl (o_append1 Tryz.underlying22 Tryz.underlying22 sz5 by5 z5 rfl (by decide) (by decide) rfl rfl rfl rfl rfl (by rw [List.length_append, List.length_take]; omega)) ?_; rintro u30 _ rfl; refine tv (o_assign rfl) ?_; refine tl_nil ?_; refine q_block_n (q_then_n ?_); refine tc_reg ?_; refine tv (o_move rfl) ?_; refine tv adqz ?_; refine tv (o_assign rfl) ?_; refine nq ?_; exact ⟨_, by omega, j + 1, u30, by omega, rfl, rfl, rfl, rfl, rfl, by rw [List.take_succ_eq_append_getElem hj', ← List.append_assoc, ← slb_snoc]⟩
        · simp only [decide_eq_false_iff_not] at h
          obtain rfl : j = ls[i].length := by omega
          rw [List.take_length]
          refine tc_exit ?_; refine q_then_e (q_then_e (q_block_x (q_block_n (q_then_n ?_)))); refine tc_reg ?_; refine tv (o_move rfl) ?_; refine tv adqz ?_; refine tv (o_assign rfl) ?_; refine nq ?_; exact ⟨_, by omega, i + 1, u, by omega, rfl, rfl, rfl, rfl, by rw [List.take_succ_eq_append_getElem hi', List.flatten_append, List.flatten_singleton]⟩
    · try simp only [lv1, lv2, lv3, lv4, lv5, lv6, Bool.not_true, Bool.not_false] at h
      refine tc_exit ?_; refine q_then_e (q_then_e (q_block_x (q_then_n ?_))); refine sr ?_; refine tv (o_move rfl) ?_; refine tv (o_assign rfl) ?_; refine nq ?_; refine tc_ret ?_
      obtain rfl : i = ls.length := by omega
      rw [List.take_length]
      exact ⟨v, res1 rfl rfl, rfl⟩
theorem JoinN_f (A : SP) (a : Option Addr) (c n : Nat) (ls : List (List Nat)) (hr : RdRows A a ls) (hl : ls.flatten.length ≤ 17592186044416) (hl2 : ls.length ≤ 17592186044416) (hn : ls.length = n) :
    Fn Tryz.prog 104 #[.slice a n c] A (fun r B => B = A * Sl 1 r ls.flatten.length (bys ls.flatten)) := by subst hn; exact Join_f A a c ls hr hl hl2
end Go.Vl

namespace Go.Vl
open Go Go.Proofs
/-- A line of bytes. -/
def wordF (xs : List Nat) (i k : Nat) : Nat := nm ((xs.drop (i * 64 + k * 8)).take 8)
def lineF (xs : List Nat) (i : Nat) : LineS := ⟨[(List.replicate 8 0).mapIdx fun k _ => wordF xs i k], -1⟩
/-- A device of bytes. -/
def fromS (n : Nat) (xs : List Nat) : DevS := { newS n with ls := (newS n).ls.mapIdx fun i _ => lineF xs i }
theorem take8_lt {xs : List Nat} (hb : ∀ x ∈ xs, x < 256) (p : Nat) : nm ((xs.drop p).take 8) < 18446744073709551616 := by
  have h1 := nm_lt ((xs.drop p).take 8) fun x hx => hb x (List.mem_of_mem_drop (List.mem_of_mem_take hx))
  have h2 : ((xs.drop p).take 8).length ≤ 8 := by rw [List.length_take]; omega
  have h3 := Nat.pow_le_pow_right (show 0 < 256 by decide) h2
  have : (256 : Nat) ^ 8 = 18446744073709551616 := by decide
  omega
theorem lineF_wf {xs : List Nat} (hb : ∀ x ∈ xs, x < 256) (i : Nat) : WfL (lineF xs i) := by
  refine ⟨by simp [lineF], ?_, by simp [lineF], by simp [lineF], by simp [lineF], ?_⟩
  · intro s hs
    simp only [lineF, List.mem_singleton] at hs; subst hs; simp
  · intro s hs x hx
    simp only [lineF, List.mem_singleton] at hs; subst hs
    obtain ⟨j, hj, rfl⟩ := List.mem_iff_getElem.1 hx
    rw [List.getElem_mapIdx]; exact take8_lt hb _
theorem fromS_wf {n : Nat} {xs : List Nat} (h : 0 < n) (h2 : n ≤ 65536) (hb : ∀ x ∈ xs, x < 256) : WfD (fromS n xs) :=
  ⟨by simp [fromS, newS]; exact h, by simp [fromS, newS]; exact h2, fun l hl => by
    obtain ⟨j, hj, rfl⟩ := List.mem_iff_getElem.1 hl
    simp only [fromS, List.getElem_mapIdx]; exact lineF_wf hb _, by simp [fromS, newS], by simp [fromS, newS], by simp [fromS, newS]⟩
/-- Bytes laid over others. -/
def spl {α : Type} (l : List α) (p : Nat) (b : List α) : List α := l.take p ++ b ++ l.drop (p + b.length)
theorem spl_length {α : Type} {l b : List α} {p : Nat} (h : p + b.length ≤ l.length) : (spl l p b).length = l.length := by
  simp only [spl, List.length_append, List.length_take, List.length_drop]; omega
theorem splice_spl {l b : List Value} {p : Nat} (h : p + b.length ≤ l.length) : splice l p b = spl l p b := splice_eq h
theorem spl_at {α : Type} {l b : List α} {p i : Nat} (h : p + b.length ≤ l.length) : (spl l p b)[i]? = if p ≤ i ∧ i < p + b.length then b[i - p]? else l[i]? := by
  unfold spl
  by_cases h1 : i < p
  · rw [if_neg oqz, List.append_assoc, List.getElem?_append_left (by simp; omega), List.getElem?_take, if_pos h1]
  · by_cases h2 : i < p + b.length
    · rw [if_pos oqz, List.append_assoc, List.getElem?_append_right (by simp; omega), List.getElem?_append_left (by simp; omega)]
      congr 1; simp; omega
    · rw [if_neg oqz, List.getElem?_append_right (by simp; omega), List.getElem?_drop]
      congr 1; simp; omega
theorem spl_bys (l b : List Nat) (p : Nat) : spl (bys l) p (bys b) = bys (spl l p b) := by
  simp [spl, bys, List.map_take, List.map_drop]
theorem spl_spl {α : Type} {l b c : List α} {p : Nat} (h : p + b.length + c.length ≤ l.length) : spl (spl l p b) (p + b.length) c = spl l p (b ++ c) := by
  have h1 : p + b.length ≤ l.length := by omega
  apply List.ext_getElem?
  intro i
  rw [spl_at (by rw [spl_length h1]; omega), spl_at h1, spl_at (by simp; omega)]
  by_cases h2 : p + b.length ≤ i ∧ i < p + b.length + c.length
  · rw [if_pos h2, if_pos (by simp; omega), List.getElem?_append_right oqz]; congr 1; omega
  · rw [if_neg h2]
    by_cases h3 : p ≤ i ∧ i < p + b.length
    · rw [if_pos h3, if_pos (by simp; omega), List.getElem?_append_left oqz]
    · rw [if_neg h3, if_neg (by simp; omega)]
/-- A word's bytes with some of them laid over. -/
def stW (p : Nat) (b : List Nat) (s : DevS) : List Nat := spl (le 8 ((seenL (s.ls.getD (p / 64) zline)).getD (p % 64 / 8) 0)) (p % 8) (b.take (8 - p % 8))
def storeF : Nat → Nat → List Nat → DevS → Int × DevS
  | 0, _, _, s => (0, s)
  | f + 1, p, b, s => if b = [] then (0, s) else
    if doneE (layS (p - p % 8) (nm (stW p b s)) s) ≠ 0 then (doneE (layS (p - p % 8) (nm (stW p b s)) s), doneS (layS (p - p % 8) (nm (stW p b s)) s))
    else storeF f (p + min (8 - p % 8) b.length) (b.drop (8 - p % 8)) (doneS (layS (p - p % 8) (nm (stW p b s)) s))
theorem storeF_nil (f p : Nat) (s : DevS) : storeF f p [] s = (0, s) := by cases f <;> rfl
theorem storeF_fuel : ∀ (f g : Nat) {p : Nat} {b : List Nat} {s : DevS}, b.length ≤ f → b.length ≤ g → storeF f p b s = storeF g p b s
  | f, g, p, [], s, _, _ => by rw [storeF_nil, storeF_nil]
  | 0, _, _, _ :: _, _, h, _ => by simp at h
  | _, 0, _, _ :: _, _, _, h => by simp at h
  | f + 1, g + 1, p, x :: b, s, hf, hg => by
    have hd : ((x :: b).drop (8 - p % 8)).length ≤ b.length := by rw [List.length_drop, List.length_cons]; omega
    simp only [List.length_cons] at hf hg
    unfold storeF
    rw [storeF_fuel f g oqz oqz]
/-- What Store answers, and the device behind it. -/
def sto (p : Int) (b : List Nat) (s : DevS) : Int × DevS := if rdy s.ls.length s.off p b.length ≠ 0 then (rdy s.ls.length s.off p b.length, s) else storeF b.length p.toNat b s
end Go.Vl

namespace Go.Vl
open Go Go.Proofs
/-- What a slice that is made looks like. -/
theorem fn_sl {P : Program} {f : FuncId} {args : Array Value} {A A0 : SP} {k n : Nat} {xs : List Value} (h : Fn P f args A (fun r B => B = A0 * Sl k r n xs)) : Fn P f args A (fun r B => ∃ a c, r = .slice a n c ∧ n ≤ c ∧ B = A0 * Sl k (.slice a n c) n xs) := fun g w hs => by
  refine (h g w hs).mono ?_; rintro e w' ⟨v, B, rfl, rfl, hB⟩
  obtain ⟨a, c, rfl, h1, _⟩ := sl_have hB
  exact ⟨_, _, rfl, ⟨a, c, rfl, h1, rfl⟩, hB⟩
theorem ql_env {P : Program} {n : Nat} {ops : Array Oper} {A : SP} {K : Env → Prop} {l : List Oper} {ρ : Env} {d : Nat} {v : Value} (h : ρ d = v) (k : QL P n ops A K l (upd ρ d v)) : QL P n ops A K l ρ := by
  rw [← env_set h] at k; exact k
theorem Ops_c {A R : SP} {C : SP → SP} {d : Nat} {s : DevS} (hc : Ct A (Dev d s) R C := by repeat (first | with_reducible exact ct_here | apply ct_left))  :
    Fn Tryz.prog 12 #[.pointer (some ⟨d, 0, none⟩)] A (fun r B => r = .int .i64 s.ops ∧ A = B) := by
  obtain ⟨rfl, hC⟩ := hc
  exact OpsD_f
theorem Off_c {A R : SP} {C : SP → SP} {d : Nat} {s : DevS} (hc : Ct A (Dev d s) R C := by repeat (first | with_reducible exact ct_here | apply ct_left))  :
    Fn Tryz.prog 13 #[.pointer (some ⟨d, 0, none⟩)] A (fun r B => r = .bool s.off ∧ A = B) := by
  obtain ⟨rfl, hC⟩ := hc
  exact OffD_f
theorem Store8_c {A R : SP} {C : SP → SP} {d : Nat} {s : DevS} (hc : Ct A (Dev d s) R C := by repeat (first | with_reducible exact ct_here | apply ct_left)) {v : Nat} {p : Int} (hp : -9223372036854775808 ≤ p ∧ p ≤ 9223372036854775807 := by omega) (hv : v < 18446744073709551616 := by omega) (hroom : Room 1 s := by assumption) :
    Fn Tryz.prog 49 #[.pointer (some ⟨d, 0, none⟩), .int .i64 p, .int .u64 (v : Nat)] A (fun r B => ∃ e s2, st8 p v s = (e, s2) ∧ r = .int .i64 e ∧ B = C (Dev d s2)) := by
  obtain ⟨rfl, hC⟩ := hc
  exact (Store8_f R d v p s hp hv hroom).mono fun _ _ h => ⟨(st8 p v s).1, (st8 p v s).2, rfl, h.1, by rw [hC]; exact h.2⟩
theorem Flush_c {A R : SP} {C : SP → SP} {d : Nat} {s : DevS} (hc : Ct A (Dev d s) R C := by repeat (first | with_reducible exact ct_here | apply ct_left)) {p : Int} (hp : -9223372036854775808 ≤ p ∧ p ≤ 9223372036854775807 := by omega) :
    Fn Tryz.prog 38 #[.pointer (some ⟨d, 0, none⟩), .int .i64 p] A (fun r B => ∃ e s2, fl1 p s = (e, s2) ∧ r = .int .i64 e ∧ B = C (Dev d s2)) := by
  obtain ⟨rfl, hC⟩ := hc
  exact (Flush_f R d p s hp).mono fun _ _ h => ⟨(fl1 p s).1, (fl1 p s).2, rfl, h.1, by rw [hC]; exact h.2⟩
theorem Fence_c {A R : SP} {C : SP → SP} {d : Nat} {s : DevS} (hc : Ct A (Dev d s) R C := by repeat (first | with_reducible exact ct_here | apply ct_left))  :
    Fn Tryz.prog 40 #[.pointer (some ⟨d, 0, none⟩)] A (fun r B => ∃ e s2, fe s = (e, s2) ∧ r = .int .i64 e ∧ B = C (Dev d s2)) := by
  obtain ⟨rfl, hC⟩ := hc
  exact (Fence_f R d s).mono fun _ _ h => ⟨(fe s).1, (fe s).2, rfl, h.1, by rw [hC]; exact h.2⟩
theorem Wake_c {A R : SP} {C : SP → SP} {d : Nat} {s : DevS} (hc : Ct A (Dev d s) R C := by repeat (first | with_reducible exact ct_here | apply ct_left))  :
    Fn Tryz.prog 45 #[.pointer (some ⟨d, 0, none⟩)] A (fun r B => r = .int .i64 (if s.off then 0 else 3) ∧ B = C (Dev d { s with off := false })) := by
  obtain ⟨rfl, hC⟩ := hc
  exact (Wake_f R d s).mono fun _ _ h => ⟨h.1, by rw [hC]; exact h.2⟩
/-- What Crash answers, and the device behind it. -/
def crS (keep : List Int) (s : DevS) : Int × DevS := if s.off then (5, s) else if lowB keep then (2, s) else (0, goesS keep s)
theorem Crash_c {A R : SP} {C : SP → SP} {d : Nat} {s : DevS} (hc : Ct A (Dev d s) R C := by repeat (first | with_reducible exact ct_here | apply ct_left)) {a : Option Addr} {c m : Nat} {keep : List Int} (hr : Rs R a (ints keep) := by repeat (first | assumption | with_reducible exact rs_sl | with_reducible exact rs_pt0 | exact rs_none | apply Rs.left)) (hk : ∀ k ∈ keep, k ≤ 9223372036854775807 := by assumption) (hm : keep.length = m := by assumption) (hkl : m ≤ 17592186044416 := by omega) :
    Fn Tryz.prog 42 #[.pointer (some ⟨d, 0, none⟩), .slice a m c] A (fun r B => ∃ e s2, crS keep s = (e, s2) ∧ r = .int .i64 e ∧ B = C (Dev d s2)) := by
  obtain ⟨rfl, hC⟩ := hc
  subst hm
  refine fn_have (p := Rd R a (ints keep)) (fun _ _ h => hr.rd h.left) fun hr => ?_
  exact (Crash_f R d c s a keep hr hk hkl).mono fun _ _ h => by
    refine ⟨(crS keep s).1, (crS keep s).2, rfl, ?_⟩
    rw [h.1, h.2, hC]; unfold crS
    by_cases h1 : s.off = true
    · simp [h1]
    · by_cases h2 : lowB keep = true <;> simp [h1, h2]
theorem ready_c {A R : SP} {C : SP → SP} {d : Nat} {s : DevS} (hc : Ct A (Dev d s) R C := by repeat (first | with_reducible exact ct_here | apply ct_left)) {p m : Int} (hp : -9223372036854775808 ≤ p ∧ p ≤ 9223372036854775807 := by omega) (hm : -9223372036854775808 ≤ m ∧ m ≤ 9223372036854775807 := by omega) :
    Fn Tryz.prog 64 #[.pointer (some ⟨d, 0, none⟩), .int .i64 p, .int .i64 m] A (fun r B => r = .int .i64 (rdy s.ls.length s.off p m) ∧ A = B) := by
  obtain ⟨rfl, hC⟩ := hc
  exact fn_devR0 fun _ A bl svs av hR => ready_f A d bl s.ls.length s av hR.d hR.wf.pos hR.wf.top p m hp hm
theorem lay_c {A R : SP} {C : SP → SP} {d : Nat} {s : DevS} (hc : Ct A (Dev d s) R C := by repeat (first | with_reducible exact ct_here | apply ct_left)) {p v : Nat} (hat : p / 64 < s.ls.length := by omega) (hv : v < 18446744073709551616 := by omega) (hroom : Room 1 s := by assumption) :
    Fn Tryz.prog 66 #[.pointer (some ⟨d, 0, none⟩), .int .i64 (p : Nat), .int .u64 (v : Nat)] A (fun r B => r = .int .i64 (doneE (layS p v s)) ∧ B = C (Dev d (doneS (layS p v s)))) := by
  obtain ⟨rfl, hC⟩ := hc
  exact (lay_f R d p v s hat hv hroom).mono fun _ _ h => ⟨h.1, by rw [hC]; exact h.2⟩
theorem Image_c {A R : SP} {C : SP → SP} {d : Nat} {s : DevS} (hc : Ct A (Dev d s) R C := by repeat (first | with_reducible exact ct_here | apply ct_left))  :
    Fn Tryz.prog 15 #[.pointer (some ⟨d, 0, none⟩)] A (fun r B => ∃ a c, r = .slice a (s.ls.length * 64) c ∧ s.ls.length * 64 ≤ c ∧ B = A * Sl 1 (.slice a (s.ls.length * 64) c) (s.ls.length * 64) (bys (imgS s))) := by
  obtain ⟨rfl, hC⟩ := hc
  exact fn_sl (ImageD_f.mono fun _ _ ⟨X, h, e⟩ => by rw [h, e])
theorem Load_c {A R : SP} {C : SP → SP} {d : Nat} {s : DevS} (hc : Ct A (Dev d s) R C := by repeat (first | with_reducible exact ct_here | apply ct_left)) {p m : Nat} (hoff : s.off = false := by assumption) (hpm : p + m ≤ s.ls.length * 64 := by omega) :
    Fn Tryz.prog 27 #[.pointer (some ⟨d, 0, none⟩), .int .i64 (p : Nat), .int .i64 (m : Nat)] A (fun r B => ∃ a c, r = .tuple #[.slice a m c, .int .i64 0] ∧ m ≤ c ∧ B = A * Sl 1 (.slice a m c) m (bys (((imgS s).drop p).take m))) := by
  obtain ⟨rfl, hC⟩ := hc
  refine fun g w hs => (LoadD_f (F := R) (d := d) hoff hpm rfl g w hs).mono ?_; rintro e w' ⟨v, B, rfl, ⟨X, rfl, u, rfl, rfl⟩, hB⟩
  obtain ⟨a, c, rfl, h1, _⟩ := sl_have hB
  exact ⟨_, _, rfl, ⟨a, c, rfl, h1, rfl⟩, hB⟩
theorem LoadNo_c {A R : SP} {C : SP → SP} {d : Nat} {s : DevS} (hc : Ct A (Dev d s) R C := by repeat (first | with_reducible exact ct_here | apply ct_left)) {p m : Int} (hp : -9223372036854775808 ≤ p ∧ p ≤ 9223372036854775807 := by omega) (hm : -9223372036854775808 ≤ m ∧ m ≤ 9223372036854775807 := by omega) (hno : rdy s.ls.length s.off p m ≠ 0 := by assumption) :
    Fn Tryz.prog 27 #[.pointer (some ⟨d, 0, none⟩), .int .i64 p, .int .i64 m] A (fun r B => r = .tuple #[.slice none 0 0, .int .i64 (rdy s.ls.length s.off p m)] ∧ A = B) := by
  obtain ⟨rfl, hC⟩ := hc
  exact fn_devR0 fun _ A bl svs av hR => LoadNo_f A d bl svs av s hR p m hp hm hno
theorem New_c {A : SP} {n : Nat} {v : Int} (hv : v = ((n * 64 : Nat) : Int) := by omega) (hn : 0 < n := by omega) (hn2 : n ≤ 65536 := by omega) : Fn Tryz.prog 19 #[.int .i64 v] A (fun r B => ∃ d, r = .tuple #[.pointer (some ⟨d, 0, none⟩), .int .i64 0] ∧ B = A * Dev d (newS n)) := by
  subst hv; exact New_f A n hn hn2
theorem CopyInts_c {A : SP} {a : Option Addr} {c m : Nat} {xs : List Int} (hr : Rs A a (ints xs) := by repeat (first | assumption | with_reducible exact rs_sl | with_reducible exact rs_pt0 | exact rs_none | apply Rs.left)) (hm : xs.length = m := by first | assumption | rfl) (hl : m ≤ 17592186044416 := by omega) :
    Fn Tryz.prog 43 #[.slice a m c] A (fun r B => ∃ a' c', r = .slice a' m c' ∧ m ≤ c' ∧ B = A * Sl 1 (.slice a' m c') m (ints xs)) := by
  subst hm; exact fn_rs hr fun hr => fn_sl (CopyInts_f A a c xs hr hl)
theorem CopyBytes_c {A : SP} {a : Option Addr} {c m : Nat} {xs : List Nat} (hr : Rs A a (bys xs) := by repeat (first | assumption | with_reducible exact rs_sl | with_reducible exact rs_pt0 | exact rs_none | apply Rs.left)) (hm : xs.length = m := by first | assumption | rfl) (hl : m ≤ 140737488351232 := by omega) :
    Fn Tryz.prog 6 #[.slice a m c] A (fun r B => ∃ a' c', r = .slice a' m c' ∧ m ≤ c' ∧ B = A * Sl 1 (.slice a' m c') m (bys xs)) := by
  subst hm; exact fn_rs hr fun hr => fn_sl (CopyBytes_f A a c xs hr hl)
theorem EqBytes_c {A : SP} {a1 a2 : Option Addr} {c1 c2 n m : Nat} {xs ys : List Nat} (h1 : Rs A a1 (bys xs) := by repeat (first | assumption | with_reducible exact rs_sl | with_reducible exact rs_pt0 | exact rs_none | apply Rs.left)) (h2 : Rs A a2 (bys ys) := by repeat (first | assumption | with_reducible exact rs_sl | with_reducible exact rs_pt0 | exact rs_none | apply Rs.left)) (hx : xs.length = n := by first | assumption | rfl) (hy : ys.length = m := by first | assumption | rfl) (hn : n ≤ 4611686018427387904 := by omega) (hm : m ≤ 4611686018427387904 := by omega) :
    Fn Tryz.prog 14 #[.slice a1 n c1, .slice a2 m c2] A (fun r B => r = .bool (decide (xs = ys)) ∧ A = B) := by
  subst hx hy; exact fn_rs h1 fun h1 => fn_rs h2 fun h2 => EqBytes_f A a1 a2 c1 c2 xs ys h1 h2 hn hm
theorem Take64_c {A : SP} {a : Option Addr} {c m : Nat} {xs : List Nat} {p : Nat} (hr : Rs A a (bys xs) := by repeat (first | assumption | with_reducible exact rs_sl | with_reducible exact rs_pt0 | exact rs_none | apply Rs.left)) (hb : ∀ x ∈ xs, x < 256 := by assumption) (hm : xs.length = m := by first | assumption | rfl) (hp : p + 8 ≤ m := by omega) (hl : m ≤ 1099511627776 := by omega) :
    Fn Tryz.prog 20 #[.slice a m c, .int .i64 (p : Nat)] A (fun r B => r = .tuple #[.int .u64 ((nm ((xs.drop p).take 8) : Nat) : Int), .int .i64 0] ∧ A = B) := by
  subst hm; exact fn_rs hr fun hr => Take64_f A a c xs p hb hr hp hl
theorem Put64_c {A : SP} {a : Option Addr} {c m : Nat} {xs : List Nat} {v : Nat} (hr : Rs A a (bys xs) := by repeat (first | assumption | with_reducible exact rs_sl | with_reducible exact rs_pt0 | exact rs_none | apply Rs.left)) (hm : xs.length = m := by first | assumption | rfl) (hv : v < 18446744073709551616 := by omega) (hl : m ≤ 1099511627776 := by omega) :
    Fn Tryz.prog 65 #[.slice a m c, .int .u64 (v : Nat)] A (fun r B => ∃ a' c', r = .slice a' (m + 8) c' ∧ m + 8 ≤ c' ∧ B = A * Sl 1 (.slice a' (m + 8) c') (m + 8) (bys (xs ++ le 8 v))) := by
  subst hm; exact fn_rs hr fun hr => fn_sl ((Put64_f A a c xs v hr hv hl).mono fun _ _ ⟨u, e, h⟩ => by rw [e]; exact h)
end Go.Vl

namespace Go.Vl
open Go Go.Proofs
/-! ### Structs of ints that are held against each other -/
def intF (P : Program) (f : Field) : Bool := f.name != "_" && plainE P f.type && (match P.underlying f.type with | some (.int _) => true | _ => false)
/-- A struct whose fields are ints, one a cell. -/
def flatI (P : Program) (fs : Array Field) (n : Nat) : Bool := ((fs.toList.map fun f => f.offset) == List.range n) && fs.toList.all (intF P)
theorem range_eq {n : Nat} {xs ys : List Value} {l m : List Int} (hl : l.length = n) (hm : m.length = n) : ((List.range n).all fun i => l[i]? == m[i]?) = decide (l = m) := by
  by_cases e : l = m
  · subst e; simp
  · rw [decide_eq_false e]
    cases hb : (List.range n).all fun i => l[i]? == m[i]? with
    | false => rfl
    | true =>
      exfalso; apply e
      apply List.ext_getElem?
      intro i
      by_cases hi : i < n
      · rw [List.all_eq_true] at hb
        have := hb i (by simp; exact hi)
        simpa using this
      · rw [List.getElem?_eq_none oqz, List.getElem?_eq_none oqz]
theorem eqst_run {P : Program} {t : TypeId} {fs : Array Field} {w : World} {n : Nat} (hu : P.underlying t = some (.struct fs)) (hst : P.stoodInHeld t = false) (hf : flatI P fs n = true) (l m : List Int) (hl : l.length = n) (hm : m.length = n) :
    (Op.equal t (.agg (ints l).toArray) (.agg (ints m).toArray)).run P w = .ok (decide (l = m)) w := by
  show (Op.equalIn (9999 + 1) t _ _).run P w = _
  unfold flatI at hf
  rw [Bool.and_eq_true, beq_iff_eq] at hf
  obtain ⟨ho, hall⟩ := hf
  have hlt : ∀ f ∈ fs.toList, f.offset < n := fun f hf => by
    have : f.offset ∈ fs.toList.map (fun f => f.offset) := List.mem_map_of_mem hf
    rw [ho] at this; simpa using this
  rw [Op.equalIn, run_bind (run_und hu)]
  simp only []
  rw [run_bind (w' := w) (a := P) (by rfl), if_neg (by rw [hst]; decide)]
  have hpart : ∀ (f : Field), f ∈ fs.toList → ∀ (zs : List Int), zs.length = n → (part f.type (ints zs).toArray f.offset).run P w = .ok (.int .i64 (zs[f.offset]?.getD 0)) w := fun f hf zs hz => by
    have h := hlt f hf
    have hp : plainE P f.type = true := by have := List.all_eq_true.1 hall f hf; simp [intF] at this; exact this.1.2
    unfold part
    rw [run_bind (run_isAgg_f hp)]
    have h' : f.offset < zs.length := by omega
    simp [ints, i64, h', pure]
  have heq : ∀ (f : Field), f ∈ fs.toList → ∀ (a b : Int), (Op.equalIn 9999 f.type (.int .i64 a) (.int .i64 b)).run P w = .ok (a == b) w := fun f hf a b => by
    have := List.all_eq_true.1 hall f hf
    simp only [intF, Bool.and_eq_true] at this
    obtain ⟨_, h2⟩ := this
    show (Op.equalIn (9998 + 1) f.type (.int .i64 a) (.int .i64 b)).run P w = _
    cases hq : P.underlying f.type with
    | none => simp [hq] at h2
    | some d =>
      rw [hq] at h2
      cases d <;> simp at h2
      rw [Op.equalIn, run_bind (run_und hq)]; simp [pure]
  have hname : ∀ f ∈ fs.toList, f.name ≠ "_" := fun f hf => by have := List.all_eq_true.1 hall f hf; simp [intF] at this; exact this.1.1
  rw [← Array.forIn_toList]
  have hall' := run_all (P := P) (w := w) (fun (f : Field) __s => 
      if f.name ≠ "_" then do
        let a ← part f.type (ints l).toArray f.offset
        let b ← part f.type (ints m).toArray f.offset
        let c ← Op.equalIn 9999 f.type a b
        if (!c) = true then pure (ForInStep.done (some false, ())) else pure (ForInStep.yield (none, ()))
      else pure (ForInStep.yield (none, ()))) (fun f => l[f.offset]? == m[f.offset]?) fs.toList (fun f hf => by
    rw [if_pos (hname f hf), run_bind (hpart f hf l hl), run_bind (hpart f hf m hm), run_bind (heq f hf _ _)]
    have h := hlt f hf
    have h1 : l[f.offset]? = some (l[f.offset]'oqz) := List.getElem?_eq_getElem _
    have h2 : m[f.offset]? = some (m[f.offset]'oqz) := List.getElem?_eq_getElem _
    rw [h1, h2]
    by_cases hc : (l[f.offset]'oqz) = (m[f.offset]'oqz) <;> simp [hc, pure])
  rw [run_bind hall']
  have e : (fs.toList.all fun f => l[f.offset]? == m[f.offset]?) = decide (l = m) := by
    rw [← range_eq (xs := []) (ys := []) hl hm, ← ho, List.all_map]; rfl
  rw [e]
  by_cases h : l = m <;> simp [h, pure]
section
variable {P : Program} {n : Nat} {ρ : Env} {A : SP} {dst : Option Tmp} {ty : TypeId} {pos : String} {after : Array Edge} {gd : Option (Nat × Bool)}
theorem o_nest {t t' : TypeId} {x y : Operand} {k : Nat} {fs : Array Field} {l m : List Int} (hu : P.underlying t = some (.struct fs)) (hst : P.stoodInHeld t = false) (hf : flatI P fs k = true) (hge : P.eqGuardType P.depth t = false)
    (hx : ev n ρ x = .agg (ints l).toArray) (hy : ev n ρ y = .agg (ints m).toArray) (h1 : l.length = k) (h2 : m.length = k) :
    OpV P n ρ A ⟨dst, .binOp .neq t x y t', ty, pos, after, gd⟩ (.bool (!decide (l = m))) := opv_of fun w => by
  simp only [execOp, hx, hy]
  rw [run_bind (w' := w) (a := .bool (!decide (l = m)))]
  · rfl
  rw [run_bind (w' := w) (a := ())]
  · show (do pure (Value.bool (!(← Op.equal t (.agg (ints l).toArray) (.agg (ints m).toArray)))) : Sem Value).run P w = _
    rw [run_bind (eqst_run hu hst hf l m h1 h2)]; rfl
  · simp [eqGuard, hge, program, bind, Sem.bind, Sem.run, pure]
/-! ### A slice as an array -/
/-! ### 32 bits -/
theorem o_compl32 {t : TypeId} {x : Operand} {a : Nat} (hx : ev n ρ x = .int .u32 (a : Nat)) (ha : a < 4294967296) : OpV P n ρ A ⟨dst, .unOp .xor t x, ty, pos, after, gd⟩ (.int .u32 ((a ^^^ 4294967295 : Nat) : Int)) := (o_compl hx).cast (by
  have h1 : (BitVec.ofInt IntKind.u32.bits (if IntKind.u32.signed then -1 else IntKind.u32.max)).toNat = 4294967295 := by decide
  rw [BitVec.toNat_xor, h1, bv_of .u32 a (by simpa [IntKind.bits] using ha), Nat.xor_comm, wrap_fit .u32 rfl _ (Nat.xor_lt_two_pow (by simpa [IntKind.bits] using ha) (by decide))])
theorem o_neg32 {t : TypeId} {x : Operand} {a : Nat} (hx : ev n ρ x = .int .u32 (a : Nat)) (ha : a < 2) : OpV P n ρ A ⟨dst, .unOp .neg t x, ty, pos, after, gd⟩ (.int .u32 ((a * 4294967295 : Nat) : Int)) := (o_neg hx).cast (by
  have : a = 0 ∨ a = 1 := by omega
  rcases this with rfl | rfl <;> rfl)
/-! ### Bytes that may be a string's -/
end
/-- A string of bytes. -/
def sob (xs : List Nat) : ByteArray := ⟨(xs.map fun n => UInt8.ofNat n).toArray⟩
end Go.Vl

namespace Go.Vl
open Go Go.Proofs
theorem sq0z {p : Prop} (h : p := by repeat (first | exact nn_some | with_reducible exact nn_sl (by decide) | exact nn_rs (by assumption) (fun _ => by first | omega | (simp only [bys_length, ints_length, wds_length, bos_length, List.length_append, List.length_take, List.length_drop, List.length_singleton]; omega)) | apply Nn.left)) : p := h
theorem sq1z {p : Prop} (h : p := by first | omega | (simp only [bys_length, ints_length, wds_length, bos_length, List.length_append, List.length_take, List.length_drop, List.length_singleton]; omega)) : p := h
/-! ### The sum's law -/
def crs (r : Nat) : Nat := (r / 2) ^^^ (2197175160 * (r % 2))
def crk : Nat → Nat → Nat
  | 0, r => r
  | k + 1, r => crs (crk k r)
def crL (r : Nat) : List Nat → Nat
  | [] => r
  | x :: xs => crL (crk 8 (r ^^^ x)) xs
def crc (s : Nat) (xs : List Nat) : Nat := crL (s ^^^ 4294967295) xs ^^^ 4294967295
theorem x32 {a b : Nat} (ha : a < 4294967296) (hb : b < 4294967296) : a ^^^ b < 4294967296 := Nat.xor_lt_two_pow (n := 32) ha hb
theorem crs_lt {r : Nat} (h : r < 4294967296) : crs r < 4294967296 := x32 oqz oqz
theorem crk_lt {r : Nat} (h : r < 4294967296) : ∀ k, crk k r < 4294967296
  | 0 => h
  | k + 1 => crs_lt (crk_lt h k)
theorem crL_lt : ∀ {xs : List Nat} {r : Nat}, r < 4294967296 → (∀ x ∈ xs, x < 256) → crL r xs < 4294967296
  | [], _, h, _ => h
  | x :: xs, r, h, hb => crL_lt (xs := xs) (crk_lt (x32 h (by have := hb x (by simp); omega)) 8) fun y hy => hb y (by simp [hy])
theorem crL_snoc : ∀ {xs : List Nat} {r x : Nat}, crL r (xs ++ [x]) = crk 8 (crL r xs ^^^ x)
  | [], _, _ => rfl
  | y :: ys, r, x => by show crL _ (ys ++ [x]) = _; rw [crL_snoc]; rfl
theorem crL_take {xs : List Nat} {r i : Nat} (h : i < xs.length) : crL r (xs.take (i + 1)) = crk 8 (crL r (xs.take i) ^^^ xs[i]) := by
  rw [List.take_succ_eq_append_getElem h, crL_snoc]
theorem crc_lt {s : Nat} {xs : List Nat} (h : s < 4294967296) (hb : ∀ x ∈ xs, x < 256) : crc s xs < 4294967296 := x32 (crL_lt (x32 h (by decide)) hb) (by decide)
theorem tk_b {xs : List Nat} {i : Nat} (hb : ∀ x ∈ xs, x < 256) : ∀ x ∈ xs.take i, x < 256 := fun x hx => hb x (List.mem_of_mem_take hx)
theorem and1 (r : Nat) : r &&& 1 = r % 2 := Nat.and_one_is_mod r
theorem crs_and (r : Nat) : (r / 2) ^^^ (2197175160 &&& (r % 2 * 4294967295)) = crs r := by
  unfold crs
  have : r % 2 = 0 ∨ r % 2 = 1 := by omega
  rcases this with h | h <;> rw [h] <;> rfl
theorem crk_and (k c : Nat) : (crk k c / 2 ^ 1) ^^^ (2197175160 &&& (crk k c % 2 * 4294967295)) = crk (k + 1) c := crs_and _
theorem crk_0 (c : Nat) : c = crk 0 c := rfl
theorem crL_0 (c : Nat) (xs : List Nat) : c = crL c (xs.take 0) := by rw [List.take_zero]; rfl
theorem crc_of (s : Nat) (xs : List Nat) {m : Nat} (h : xs.length = m) : crL (s ^^^ 4294967295) (xs.take m) ^^^ 4294967295 = crc s xs := by rw [← h, List.take_length]; rfl
theorem xor_half (a b : Nat) : (a ^^^ b) / 2 = a / 2 ^^^ b / 2 := by
  have := Nat.shiftRight_xor_distrib (a := a) (b := b) (i := 1)
  simpa [Nat.shiftRight_eq_div_pow] using this
theorem xor_low (a b : Nat) : (a ^^^ b) % 2 = (a % 2 + b % 2) % 2 := by
  rw [← Nat.and_one_is_mod, Nat.and_xor_distrib_right, Nat.and_one_is_mod, Nat.and_one_is_mod]
  have h1 : a % 2 = 0 ∨ a % 2 = 1 := by omega
  have h2 : b % 2 = 0 ∨ b % 2 = 1 := by omega
  rcases h1 with h1 | h1 <;> rcases h2 with h2 | h2 <;> rw [h1, h2] <;> rfl
/-- The document's register: the sum's, and what of the byte is not yet in it. -/
def rfk (k c x : Nat) : Nat := crk k c ^^^ x / 2 ^ k
theorem rfk_zero {c x : Nat} : rfk 0 (c ^^^ x) x = c := by
  unfold rfk crk; rw [Nat.pow_zero, Nat.div_one, Nat.xor_assoc, Nat.xor_self, Nat.xor_zero]
theorem rfk_eight {c x : Nat} (h : x < 256) : rfk 8 c x = crk 8 c := by
  unfold rfk; rw [Nat.div_eq_of_lt h, Nat.xor_zero]
theorem rfk_step {k c x : Nat} : rfk (k + 1) c x = if (x / 2 ^ k % 2 ≠ rfk k c x % 2) then (rfk k c x / 2) ^^^ 2197175160 else rfk k c x / 2 := by
  have h1 : rfk k c x / 2 = crk k c / 2 ^^^ x / 2 ^ (k + 1) := by unfold rfk; rw [xor_half, Nat.pow_succ, Nat.div_div_eq_div_mul]
  have h2 : rfk k c x % 2 = (crk k c % 2 + x / 2 ^ k % 2) % 2 := xor_low _ _
  have h3 : rfk (k + 1) c x = crs (crk k c) ^^^ x / 2 ^ (k + 1) := rfl
  rw [h1, h3]
  unfold crs
  by_cases h : crk k c % 2 = 1
  · rw [if_pos oqz, h]; ac_rfl
  · have h0 : crk k c % 2 = 0 := by omega
    rw [if_neg oqz, h0]; simp
theorem rfk_t {k c x : Nat} (h : ((x / 2 ^ k % 2 : Nat) : Int) ≠ ((rfk k c x % 2 : Nat) : Int)) : rfk k c x / 2 ^^^ 2197175160 = rfk (k + 1) c x := by
  rw [rfk_step, if_pos oqz]
theorem rfk_f {k c x : Nat} (h : ((x / 2 ^ k % 2 : Nat) : Int) = ((rfk k c x % 2 : Nat) : Int)) : rfk k c x / 2 = rfk (k + 1) c x := by
  rw [rfk_step, if_neg oqz]
section
variable {P : Program} {n : Nat} {ρ : Env} {A : SP} {dst : Option Tmp} {ty : TypeId} {pos : String} {after : Array Edge} {gd : Option (Nat × Bool)}
theorem o_quoU {t t' : TypeId} {x y : Operand} {k : IntKind} {a b : Nat} (hk : k.signed = false) (hx : ev n ρ x = .int k (a : Nat)) (hy : ev n ρ y = .int k (b : Nat)) (hb : 0 < b) (ha : a < 2 ^ k.bits) : OpV P n ρ A ⟨dst, .binOp .quo t x y t', ty, pos, after, gd⟩ (.int k ((a / b : Nat) : Int)) := (o_quo hx hy oqz).cast (by
  rw [Int.tdiv_eq_ediv_of_nonneg oqz, show (a : Int) / (b : Int) = ((a / b : Nat) : Int) by simp, wrap_fit k hk _ (Nat.lt_of_le_of_lt (Nat.div_le_self _ _) ha)])
theorem o_remU {t t' : TypeId} {x y : Operand} {k : IntKind} {a b : Nat} (hx : ev n ρ x = .int k (a : Nat)) (hy : ev n ρ y = .int k (b : Nat)) (hb : 0 < b) : OpV P n ρ A ⟨dst, .binOp .rem t x y t', ty, pos, after, gd⟩ (.int k ((a % b : Nat) : Int)) := (o_rem hx hy oqz).cast (by
  rw [Int.tmod_eq_emod_of_nonneg oqz, show (a : Int) % (b : Int) = ((a % b : Nat) : Int) by simp])
end
theorem rfk_lt {k c x : Nat} (hc : c < 4294967296) (hx : x < 256) : rfk k c x < 4294967296 := by
  refine x32 (crk_lt hc k) ?_
  have := Nat.div_le_self x (2 ^ k); omega
attribute [local irreducible] crk crL crc Sl pt ro
theorem More_c {A : SP} {a : Option Addr} {m c s : Nat} {xs : List Nat} (hr : Rs A a (bys xs) := by repeat (first | assumption | with_reducible exact rs_sl | with_reducible exact rs_pt0 | exact rs_none | apply Rs.left)) (hm : xs.length = m := by first | assumption | rfl) (hb : ∀ x ∈ xs, x < 256 := by assumption) (hs : s < 4294967296 := by omega) (hl : m ≤ 1099511627776 := by omega) :
    Fn Tryz.prog 107 #[.int .u32 (s : Nat), .slice a m c] (A) (fun r B => r = .int .u32 ((crc s xs : Nat) : Int) ∧ A = B) := by
  refine fn_enterW (args := [.int .u32 (s : Nat), .slice a m c]) Tryz.func107 rfl Tryz.ntmps107 (by simp) ?_; refine sr ?_; refine tla ?_; refine nq ?_; refine sr ?_; refine tlm ?_; refine tv (o_compl32 rfl hs) ?_; refine tla ?_; refine nq ?_; refine tc_seq ?_; refine sr ?_; refine tlm ?_; refine tv (o_len Tryz.underlying22 rfl) ?_; refine tlm ?_; refine nq ?_; refine tc_block ?_; refine tc_loop (fun kk ρ BB => ∃ (i : Nat), (i ≤ m) ∧ kk = m - i ∧ ρ 5 = .int .u32 ((crL (s ^^^ 4294967295) (xs.take i) : Nat) : Int) ∧ ρ 13 = .int .i64 (i : Nat) ∧ ρ 11 = .slice a m c ∧ ρ 12 = .int .i64 (m : Nat) ∧ BB = A) (m := m - (0)) ?_ ?_
  · exact ⟨0, by omega, rfl, congrArg (fun z : Nat => Value.int .u32 (z : Int)) (crL_0 _ _), rfl, rfl, rfl, rfl⟩
  · intro k ρ B hI
    obtain ⟨i, hp0, hkk1, hE5, hE13, hE11, hE12, hBA⟩ := hI
    obtain rfl := hBA.symm
    refine tc_env (d := 5) hE5 ?_; refine tc_env (d := 13) hE13 ?_; refine tc_env (d := 11) hE11 ?_; refine tc_env (d := 12) hE12 ?_
    clear hE5 hE13 hE11 hE12
    refine sr ?_; refine tv (o_lss rfl rfl) ?_; refine nq ?_; refine tc_seq ?_; refine tc_cond rfl (fun h => ?_) (fun h => ?_)
    · have hi : i < xs.length := by simp at h; omega
      have hx256 := hb _ (List.getElem_mem hi)
      have hC := crL_lt (x32 hs (by decide : 4294967295 < 4294967296)) (tk_b (i := i) hb)
      have hR := x32 hC (show xs[i] < 4294967296 by omega)
      refine tc_skip ?_; refine q_then_n ?_; refine tc_seq ?_; refine tc_block ?_; refine sr ?_; refine tv (o_ixP1 Tryz.underlying22 sz5 rfl rfl sq1z sq0z) ?_; refine tv (o_ldP p5 rfl hr (bys_at (by assumption))) ?_; refine tla ?_; refine nq ?_; refine sr ?_; refine tlm ?_; refine tlm ?_; refine tv (by first | exact o_conv32 Tryz.underlying5 Tryz.underlying144 rfl | exact o_conv Tryz.underlying5 Tryz.underlying144 rfl) ?_; refine tl_env (d := 19) (v := .int .u32 ((xs[i] : Nat) : Int)) (congrArg (fun z : Nat => Value.int .u32 (z : Int)) (Nat.mod_eq_of_lt oqz)) ?_; refine tv (o_xorN rfl rfl rfl (by show _ < 4294967296; assumption) (by show _ < 4294967296; omega)) ?_; refine tla ?_; refine nq ?_; refine sr ?_; refine tlm ?_; refine nq ?_; refine tc_block ?_; refine tc_loop (fun kk ρ BB => ∃ (k : Nat), (k ≤ 8) ∧ kk = 8 - k ∧ ρ 5 = .int .u32 ((crk k (crL (s ^^^ 4294967295) (xs.take i) ^^^ xs[i]) : Nat) : Int) ∧ ρ 21 = .int .i64 (k : Nat) ∧ ρ 11 = .slice a m c ∧ ρ 12 = .int .i64 (m : Nat) ∧ ρ 13 = .int .i64 (i : Nat) ∧ BB = A) (m := 8 - (0)) ?_ ?_
      · exact ⟨0, by omega, rfl, congrArg (fun z : Nat => Value.int .u32 (z : Int)) (crk_0 _), rfl, rfl, rfl, rfl, rfl⟩
      · intro k ρ B hI
        obtain ⟨k, hp0, hkk2, hE5, hE21, hE11, hE12, hE13, hBA⟩ := hI
        obtain rfl := hBA.symm
        refine tc_env (d := 5) hE5 ?_; refine tc_env (d := 21) hE21 ?_; refine tc_env (d := 11) hE11 ?_; refine tc_env (d := 12) hE12 ?_; refine tc_env (d := 13) hE13 ?_
        clear hE5 hE21 hE11 hE12 hE13
        refine sr ?_; refine tv (o_lss rfl rfl) ?_; refine nq ?_; refine tc_seq ?_; refine tc_cond rfl (fun h => ?_) (fun h => ?_)
        · have hk := crk_lt hR k
          have hk8 : k < 8 := by simp at h; omega
          refine tc_skip ?_; refine q_then_n ?_; refine tc_seq ?_; refine tc_block ?_; refine sr ?_; refine tlm ?_; refine tv ((o_andN (b := 1) rfl rfl rfl (by show _ < 4294967296; assumption) (by decide)).cast (by rw [and1])) ?_; refine tla ?_; refine nq ?_; refine sr ?_; refine tlm ?_; refine tv (o_shrN (b := 1) rfl rfl rfl (by decide)) ?_; refine tla ?_; refine nq ?_; refine tc_reg ?_; refine tlm ?_; refine tlm ?_; refine tv (o_neg32 rfl oqz) ?_; refine tv (o_andN (a := 2197175160) rfl rfl rfl (by decide) (by show _ < 4294967296; omega)) ?_; refine tv (o_xorN rfl rfl rfl (by show _ < 4294967296; omega) (by show _ < 4294967296; exact Nat.and_lt_two_pow (n := 32) _ (by show _ < 4294967296; omega))) ?_; refine tla ?_; refine tl_nil ?_; refine q_block_n (q_then_n ?_); refine tc_reg ?_; refine tv adqz ?_; refine tlm ?_; refine nq ?_; exact ⟨_, by omega, k + 1, by omega, rfl, congrArg (fun z : Nat => Value.int .u32 (z : Int)) (crk_and _ _), rfl, rfl, rfl, rfl, rfl⟩
        · obtain rfl : k = 8 := by simp at h; omega
          refine tc_exit ?_; refine q_then_e (q_then_e (q_block_x (q_block_n (q_then_n ?_)))); refine tc_reg ?_; refine tv adqz ?_; refine tlm ?_; refine nq ?_; exact ⟨_, by omega, i + 1, by omega, rfl, congrArg (fun z : Nat => Value.int .u32 (z : Int)) (crL_take hi).symm, rfl, rfl, rfl, rfl⟩
    · obtain rfl : i = m := by simp at h; omega
      have hC2 := crL_lt (x32 hs (by decide : 4294967295 < 4294967296)) (tk_b (i := i) hb)
      refine tc_exit ?_; refine q_then_e (q_then_e (q_block_x (q_then_n ?_))); refine sr ?_; refine tlm ?_; refine tv (o_compl32 rfl hC2) ?_; refine tla ?_; refine nq ?_; refine tc_ret ?_; exact ⟨.int .u32 ((crc s xs : Nat) : Int), A, res1 rfl (congrArg (fun z : Nat => Value.int .u32 (z : Int)) (crc_of s xs hm)), fun _ _ h => h, rfl, rfl⟩
theorem MoreR_c {A : SP} {a : Option Addr} {m c s : Nat} {xs : List Nat} (hr : Rs A a (bys xs) := by repeat (first | assumption | with_reducible exact rs_sl | with_reducible exact rs_pt0 | exact rs_none | apply Rs.left)) (hm : xs.length = m := by first | assumption | rfl) (hb : ∀ x ∈ xs, x < 256 := by assumption) (hs : s < 4294967296 := by omega) (hl : m ≤ 1099511627776 := by omega) :
    Fn Tryz.prog 110 #[.int .u32 (s : Nat), .slice a m c] (A) (fun r B => r = .int .u32 ((crc s xs : Nat) : Int) ∧ A = B) := by
  refine fn_enterW (args := [.int .u32 (s : Nat), .slice a m c]) Tryz.func110 rfl Tryz.ntmps110 (by simp) ?_; refine sr ?_; refine tla ?_; refine nq ?_; refine sr ?_; refine tlm ?_; refine tv (by first | exact o_conv64 Tryz.underlying144 Tryz.underlying66 rfl | exact o_conv Tryz.underlying144 Tryz.underlying66 rfl) ?_; refine tl_env (d := 11) (v := .int .u64 ((s : Nat) : Int)) (congrArg (fun z : Nat => Value.int .u64 (z : Int)) (Nat.mod_eq_of_lt oqz)) ?_; refine tv (o_xorN (b := 4294967295) rfl rfl rfl (by show _ < 18446744073709551616; omega) (by decide)) ?_; refine tla ?_; refine nq ?_; refine tc_seq ?_; refine sr ?_; refine tla ?_; refine nq ?_; refine tc_block ?_; refine tc_loop (fun kk ρ BB => ∃ (i : Nat), (i ≤ m) ∧ kk = m - i ∧ ρ 5 = .int .u64 ((crL (s ^^^ 4294967295) (xs.take i) : Nat) : Int) ∧ ρ 6 = .int .i64 (i : Nat) ∧ ρ 1 = .slice a m c ∧ BB = A) (m := m - (0)) ?_ ?_
  · exact ⟨0, by omega, rfl, congrArg (fun z : Nat => Value.int .u64 (z : Int)) (crL_0 _ _), rfl, rfl, rfl⟩
  · intro k ρ B hI
    obtain ⟨i, hp0, hkk1, hE5, hE6, hE1, hBA⟩ := hI
    obtain rfl := hBA.symm
    refine tc_env (d := 5) hE5 ?_; refine tc_env (d := 6) hE6 ?_; refine tc_env (d := 1) hE1 ?_
    clear hE5 hE6 hE1
    refine tc_seq ?_; refine sr ?_; refine tlm ?_; refine tlm ?_; refine tv (o_len Tryz.underlying22 rfl) ?_; refine tv (o_lss rfl rfl) ?_; refine nq ?_; refine tc_cond rfl (fun h => ?_) (fun h => ?_)
    · have hi : i < xs.length := by simp at h; omega
      have hx256 := hb _ (List.getElem_mem hi)
      have hC := crL_lt (x32 hs (by decide : 4294967295 < 4294967296)) (tk_b (i := i) hb)
      have hR := x32 hC (show xs[i] < 4294967296 by omega)
      refine tc_skip ?_; refine q_then_n ?_; refine tc_seq ?_; refine tc_block ?_; refine sr ?_; refine tla ?_; refine nq ?_; refine tc_block ?_; refine tc_loop (fun kk ρ BB => ∃ (k : Nat), (k ≤ 8) ∧ kk = 8 - k ∧ ρ 5 = .int .u64 ((rfk k (crL (s ^^^ 4294967295) (xs.take i) ^^^ xs[i]) xs[i] : Nat) : Int) ∧ ρ 7 = .int .i64 (k : Nat) ∧ ρ 1 = .slice a m c ∧ ρ 6 = .int .i64 (i : Nat) ∧ BB = A) (m := 8 - (0)) ?_ ?_
      · exact ⟨0, by omega, rfl, congrArg (fun z : Nat => Value.int .u64 (z : Int)) rfk_zero.symm, rfl, rfl, rfl, rfl⟩
      · intro k ρ B hI
        obtain ⟨k, hp0, hkk2, hE5, hE7, hE1, hE6, hBA⟩ := hI
        obtain rfl := hBA.symm
        refine tc_env (d := 5) hE5 ?_; refine tc_env (d := 7) hE7 ?_; refine tc_env (d := 1) hE1 ?_; refine tc_env (d := 6) hE6 ?_
        clear hE5 hE7 hE1 hE6
        refine tc_seq ?_; refine sr ?_; refine tlm ?_; refine tv (o_lss rfl rfl) ?_; refine nq ?_; refine tc_cond rfl (fun h => ?_) (fun h => ?_)
        · have hk8 : k < 8 := by simp at h; omega
          have hF := rfk_lt (k := k) hR hx256
          have hd := Nat.div_le_self xs[i] (2 ^ k)
          refine tc_skip ?_; refine q_then_n ?_; refine tc_seq ?_; refine tc_block ?_; refine sr ?_; refine tlm ?_; refine tlm ?_; refine tv (o_ixP1 Tryz.underlying22 sz5 rfl rfl sq1z sq0z) ?_; refine tv (o_ldP p5 rfl hr (bys_at (by assumption))) ?_; refine tlm ?_; refine tv (o_shrN (b := k) rfl rfl rfl (by show k ≤ 8; omega)) ?_; refine tv (by first | exact o_conv64 Tryz.underlying5 Tryz.underlying66 rfl | exact o_conv Tryz.underlying5 Tryz.underlying66 rfl) ?_; refine tl_env (d := 29) (v := .int .u64 ((xs[i] / 2 ^ k : Nat) : Int)) (congrArg (fun z : Nat => Value.int .u64 (z : Int)) (Nat.mod_eq_of_lt oqz)) ?_; refine tv (o_remU (b := 2) rfl rfl (by decide)) ?_; refine tla ?_; refine nq ?_; refine sr ?_; refine tlm ?_; refine tlm ?_; refine tv (o_remU (b := 2) rfl rfl (by decide)) ?_
          refine tv (o_nei rfl rfl) ?_; refine tla ?_; refine nq ?_; refine sr ?_; refine tlm ?_; refine tv (o_quoU (b := 2) rfl rfl rfl (by decide) (by show _ < 18446744073709551616; omega)) ?_; refine tla ?_; refine nq ?_; refine sr ?_; refine tlm ?_; refine nq ?_; refine tc_cut (fun ρ BB => ρ 5 = .int .u64 ((rfk (k + 1) (crL (s ^^^ 4294967295) (xs.take i) ^^^ xs[i]) xs[i] : Nat) : Int) ∧ ρ 1 = .slice a m c ∧ ρ 6 = .int .i64 (i : Nat) ∧ ρ 7 = .int .i64 (k : Nat) ∧ BB = A) ?_ ?_
          · skip
            refine tc_cond rfl (fun h => ?_) (fun h => ?_)
            · try simp only [lv1, lv2, lv3, lv4, lv5, lv6, Bool.not_true, Bool.not_false] at h
              refine tc_reg ?_; refine tlm ?_; refine tv (o_xorN (b := 2197175160) rfl rfl rfl (by show _ < 18446744073709551616; omega) (by decide)) ?_; refine tla ?_; refine tl_nil ?_; exact ⟨by first | exact congrArg (fun z : Nat => Value.int .u64 (z : Int)) (rfk_t h) | exact congrArg (fun z : Nat => Value.int .u64 (z : Int)) (rfk_f (Classical.not_not.1 h)), rfl, rfl, rfl, rfl⟩
            · try simp only [lv1, lv2, lv3, lv4, lv5, lv6, Bool.not_true, Bool.not_false] at h
              refine tc_skip ?_; exact ⟨by first | exact congrArg (fun z : Nat => Value.int .u64 (z : Int)) (rfk_t h) | exact congrArg (fun z : Nat => Value.int .u64 (z : Int)) (rfk_f (Classical.not_not.1 h)), rfl, rfl, rfl, rfl⟩
          · intro ρ B hI
            obtain ⟨hE5, hE1, hE6, hE7, hBA⟩ := hI
            obtain rfl := hBA.symm
            refine q_block_n (q_then_n ?_); refine tc_env (d := 5) hE5 ?_; refine tc_env (d := 1) hE1 ?_; refine tc_env (d := 6) hE6 ?_; refine tc_env (d := 7) hE7 ?_
            clear hE5 hE1 hE6 hE7
            refine tc_reg ?_; refine tlm ?_; refine tv adqz ?_; refine tla ?_; refine nq ?_; exact ⟨_, by omega, k + 1, by omega, rfl, rfl, rfl, rfl, rfl, rfl⟩
        · obtain rfl : k = 8 := by simp at h; omega
          refine tc_exit ?_; refine q_then_e (q_then_e (q_block_x (q_block_n (q_then_n ?_)))); refine tc_reg ?_; refine tlm ?_; refine tv adqz ?_; refine tla ?_; refine nq ?_; exact ⟨_, by omega, i + 1, by omega, rfl, congrArg (fun z : Nat => Value.int .u64 (z : Int)) ((rfk_eight hx256).trans (crL_take hi).symm), rfl, rfl, rfl⟩
    · obtain rfl : i = m := by simp at h; omega
      have hC2 := crL_lt (x32 hs (by decide : 4294967295 < 4294967296)) (tk_b (i := i) hb)
      refine tc_exit ?_; refine q_then_e (q_then_e (q_block_x (q_then_n ?_))); refine sr ?_; refine tlm ?_; refine tv (o_xorN (b := 4294967295) rfl rfl rfl (by show _ < 18446744073709551616; omega) (by decide)) ?_; refine tv ((o_conv32 Tryz.underlying66 Tryz.underlying144 rfl).cast (congrArg (fun z : Nat => Value.int .u32 (z : Int)) (Nat.mod_eq_of_lt (x32 (b := 4294967295) hC2 (by decide))))) ?_; refine tla ?_; refine nq ?_; refine tc_ret ?_; exact ⟨.int .u32 ((crc s xs : Nat) : Int), A, res1 rfl (congrArg (fun z : Nat => Value.int .u32 (z : Int)) (crc_of s xs hm)), fun _ _ h => h, rfl, rfl⟩
end Go.Vl

namespace Go.Vl
open Go Go.Proofs
theorem ctqz {p : Prop} (h : p := by repeat (first | with_reducible exact ct_here | apply ct_left)) : p := h
/-! ### Sums of parts -/
def crcs (ls : List (List Nat)) : Nat := ls.foldl crc 0
theorem crcs_take {ls : List (List Nat)} {i : Nat} (h : i < ls.length) : crcs (ls.take (i + 1)) = crc (crcs (ls.take i)) ls[i] := by
  unfold crcs; rw [List.take_succ_eq_append_getElem h, List.foldl_append]; rfl
theorem crcs_lt {ls : List (List Nat)} (hb : ∀ l ∈ ls, ∀ x ∈ l, x < 256) : crcs ls < 4294967296 := by
  unfold crcs
  have : ∀ (ls : List (List Nat)) (s : Nat), (∀ l ∈ ls, ∀ x ∈ l, x < 256) → s < 4294967296 → ls.foldl crc s < 4294967296 := by
    intro ls
    induction ls with
    | nil => intro s _ h; exact h
    | cons l ls ih => intro s hb h; exact ih _ (fun l hl => hb l (by simp [hl])) (crc_lt h (hb l (by simp)))
  exact this ls 0 hb (by decide)
attribute [local irreducible] crk crL crc Sl pt ro
theorem Sum_c {A : SP} {a : Option Addr} {m c : Nat} {ls : List (List Nat)} (hr : RdRows A a ls) (hm : ls.length = m := by first | assumption | rfl) (hb : ∀ l ∈ ls, ∀ x ∈ l, x < 256) (hl : ∀ l ∈ ls, l.length ≤ 1099511627776) (hm2 : m ≤ 1099511627776 := by omega) :
    Fn Tryz.prog 92 #[.slice a m c] (A) (fun r B => r = .int .u32 ((crcs ls : Nat) : Int) ∧ A = B) := by
  refine fn_enterW (args := [.slice a m c]) Tryz.func92 rfl Tryz.ntmps92 (by simp) ?_
  obtain ⟨vs, hvl, hra, hrows⟩ := hr
  have hra := rs_rd hra
  refine sr ?_; refine tla ?_; refine nq ?_; refine sr ?_; refine tla ?_; refine nq ?_; refine tc_seq ?_; refine sr ?_; refine tlm ?_; refine tv (o_len Tryz.underlying75 rfl) ?_; refine tlm ?_; refine nq ?_; refine tc_block ?_; refine tc_loop (fun kk ρ BB => ∃ (i : Nat), (i ≤ m) ∧ kk = m - i ∧ ρ 3 = .int .u32 ((crcs (ls.take i) : Nat) : Int) ∧ ρ 8 = .int .i64 (i : Nat) ∧ ρ 6 = .slice a m c ∧ ρ 7 = .int .i64 (m : Nat) ∧ BB = A) (m := m - (0)) ?_ ?_
  · exact ⟨0, by omega, rfl, rfl, rfl, rfl, rfl, rfl⟩
  · intro k ρ B hI
    obtain ⟨i, hp0, hkk1, hE3, hE8, hE6, hE7, hBA⟩ := hI
    obtain rfl := hBA.symm
    refine tc_env (d := 3) hE3 ?_; refine tc_env (d := 8) hE8 ?_; refine tc_env (d := 6) hE6 ?_; refine tc_env (d := 7) hE7 ?_
    clear hE3 hE8 hE6 hE7
    refine sr ?_; refine tv (o_lss rfl rfl) ?_; refine nq ?_; refine tc_seq ?_; refine tc_cond rfl (fun h => ?_) (fun h => ?_)
    · have hi : i < ls.length := by simp at h; omega
      obtain ⟨ai, ci, hvi, hri⟩ := hrows i hi
      have hri := rs_rd hri
      have hbi := hb _ (List.getElem_mem hi)
      have hli := hl _ (List.getElem_mem hi)
      have hs32 := crcs_lt (ls := ls.take i) fun l hl => hb l (List.mem_of_mem_take hl)
      refine tc_skip ?_; refine q_then_n ?_; refine tc_seq ?_; refine tc_block ?_; refine sr ?_; refine tv (o_ixP1 Tryz.underlying75 sz22 rfl rfl oqz (nn_rs hra oqz)) ?_; refine tv (o_ldP p22 rfl hra hvi) ?_; refine tla ?_; refine nq ?_; refine tc_reg ?_; refine tlm ?_; refine tlm ?_; refine tl_c rfl (o_call bd107 rfl (More_c (hr := hri) (hb := hbi) (hl := hli) (hs := hs32))) ?_; rintro _ _ ⟨rfl, rfl⟩; refine tla ?_; refine tl_nil ?_; refine q_block_n (q_then_n ?_); refine tc_reg ?_; refine tv adqz ?_; refine tlm ?_; refine nq ?_; exact ⟨_, by omega, i + 1, by omega, rfl, congrArg (fun z : Nat => Value.int .u32 (z : Int)) (crcs_take hi).symm, rfl, rfl, rfl, rfl⟩
    · try simp only [lv1, lv2, lv3, lv4, lv5, lv6, Bool.not_true, Bool.not_false] at h
      refine tc_exit ?_; refine q_then_e (q_then_e (q_block_x (q_then_n ?_))); refine sr ?_; refine tlm ?_; refine tla ?_; refine nq ?_; refine tc_ret ?_
      obtain rfl : i = m := by omega
      exact ⟨.int .u32 ((crcs ls : Nat) : Int), A, res1 rfl (congrArg (fun z : Nat => Value.int .u32 (z : Int)) (congrArg crcs (List.take_of_length_le oqz))), fun _ _ h => h, rfl, rfl⟩
theorem SumR_c {A : SP} {a : Option Addr} {m c : Nat} {xs : List Nat} (hr : Rs A a (bys xs) := by repeat (first | assumption | with_reducible exact rs_sl | with_reducible exact rs_pt0 | exact rs_none | apply Rs.left)) (hm : xs.length = m := by first | assumption | rfl) (hb : ∀ x ∈ xs, x < 256 := by assumption) (hl : m ≤ 1099511627776 := by omega) :
    Fn Tryz.prog 103 #[.slice a m c] (A) (fun r B => r = .int .u32 ((crc 0 xs : Nat) : Int) ∧ A = B) := by
  refine fn_enterW (args := [.slice a m c]) Tryz.func103 rfl Tryz.ntmps103 (by simp) ?_; refine sr ?_; refine tla ?_; refine nq ?_; refine sr ?_; refine tlm ?_; refine tl_c rfl (o_call bd110 rfl (MoreR_c (s := 0) (hr := hr))) ?_; rintro _ _ ⟨rfl, rfl⟩; refine tla ?_; refine nq ?_; refine tc_ret ?_; exact ⟨.int .u32 ((crc 0 xs : Nat) : Int), A, res1 rfl rfl, fun _ _ h => h, rfl, rfl⟩
theorem Little_c {A : SP} {v n : Nat} (hn : n ≤ 8 := by decide) :
    Fn Tryz.prog 88 #[.int .u64 (v : Nat), .int .i64 (n : Nat)] (A) (fun r B => ∃ a c, r = .slice a n c ∧ n ≤ c ∧ B = A * Sl 1 (.slice a n c) n (bys (le n v))) := by
  refine fn_enterW (args := [.int .u64 (v : Nat), .int .i64 (n : Nat)]) Tryz.func88 rfl Tryz.ntmps88 (by simp) ?_; refine sr ?_; refine tla ?_; refine nq ?_; refine sr ?_; refine tla ?_; refine nq ?_; refine tc_seq ?_; refine sr ?_; refine tla ?_; refine nq ?_; refine tc_block ?_; refine tc_pre (fun _ _ h => sl_nil (k := 1) h) ?_; refine tc_loop (fun kk ρ BB => ∃ (i : Nat) (a5 : Option Addr) (c5 : Nat), (i ≤ n) ∧ kk = n - i ∧ ρ 5 = .slice a5 i c5 ∧ ρ 6 = .int .i64 (i : Nat) ∧ ρ 0 = .int .u64 (v : Nat) ∧ ρ 1 = .int .i64 (n : Nat) ∧ BB = A * Sl 1 (.slice a5 i c5) i (bys (le i v))) (m := n - (0)) ?_ ?_
  · exact ⟨0, none, 0, by omega, rfl, rfl, rfl, rfl, rfl, rfl⟩
  · intro k ρ B hI
    obtain ⟨i, a5, c5, hp0, hkk1, hE5, hE6, hE0, hE1, rfl⟩ := hI
    refine tc_env (d := 5) hE5 ?_; refine tc_env (d := 6) hE6 ?_; refine tc_env (d := 0) hE0 ?_; refine tc_env (d := 1) hE1 ?_
    clear hE5 hE6 hE0 hE1
    refine tc_seq ?_; refine sr ?_; refine tlm ?_; refine tlm ?_; refine tv (o_lss rfl rfl) ?_; refine nq ?_; refine tc_cond rfl (fun h => ?_) (fun h => ?_)
    · try simp only [lv1, lv2, lv3, lv4, lv5, lv6, Bool.not_true, Bool.not_false] at h
      refine tc_skip ?_; refine q_then_n ?_; refine tc_seq ?_; refine tc_block ?_; refine tc_reg ?_; refine tlm ?_; refine tlm ?_; refine tlm ?_; refine tv (by first | exact o_mulI rfl rfl oqz | exact o_mul rfl rfl) ?_; refine tl_env (d := 15) (v := .int .i64 ((8 * i : Nat) : Int)) (rfl) ?_; refine tv (o_shrN (b := 8 * i) rfl rfl rfl (by show 8 * i ≤ 64; omega)) ?_; refine tv (by first | exact o_conv8 Tryz.underlying66 Tryz.underlying5 rfl | exact o_conv Tryz.underlying66 Tryz.underlying5 rfl) ?_; refine tl_env (d := 17) (v := .int .u8 ((v / 256 ^ i % 256 : Nat) : Int)) (congrArg (fun z : Nat => Value.int .u8 ((v / z % 256 : Nat) : Int)) (Nat.pow_mul 2 8 i)) ?_; refine tl_x rfl (o_buildSlice1 Tryz.underlying22 sz5 z5 (by conv => lhs; whnf) rfl) ?_; rintro _ _ ⟨b18, rfl, rfl⟩; refine tl_x rfl (o_apB Tryz.underlying22 Tryz.underlying22 sz5 by5 z5 rfl (by decide) (by decide) rfl rfl rfl ctqz rfl (by first | exact bys_all _ | exact ints_all _ | exact wds_all _ | exact bos_all _ | rfl) sq1z (by first | exact bys_sn _ _ | exact ints_sn _ _ | exact wds_sn _ _ | exact bos_sn _ _ | exact (bys_append _ _).symm | rfl)) ?_; rintro _ _ ⟨a19, c19, rfl, hc19, rfl⟩; refine tla ?_
      refine tl_nil ?_; refine q_block_n (q_then_n ?_); refine tc_reg ?_; refine tlm ?_; refine tv adqz ?_; refine tla ?_; refine nq ?_; exact ⟨_, by omega, i + 1, _, _, by omega, rfl, rfl, rfl, rfl, rfl, by rw [le_snoc]⟩
    · try simp only [lv1, lv2, lv3, lv4, lv5, lv6, Bool.not_true, Bool.not_false] at h
      refine tc_exit ?_; refine q_then_e (q_then_e (q_block_x (q_then_n ?_))); refine tc_seq ?_; refine tc_have (fun _ _ h => ct_cap ctqz h) fun hc5 => ?_; refine tc_reg ?_; refine tlm ?_; refine tla ?_; refine nq ?_; refine tc_ret ?_
      obtain rfl : i = n := by omega
      exact ⟨_, _, res1 rfl rfl, fun _ _ h => h, a5, c5, rfl, hc5, rfl⟩
end Go.Vl

namespace Go.Vl
open Go Go.Proofs
theorem drqz {p : Prop} (h : p := by repeat (first | with_reducible exact dr_refl | apply dr_keep | apply dr_drop)) : p := h
def sbys (s : ByteArray) : List Nat := s.data.toList.map fun b => b.toNat
theorem Two_j {A : SP} {a1 a2 : Option Addr} {m1 m2 c1 c2 b : Nat} {xs ys : List Nat} {E : TypeId} (h1 : Rs A a1 (bys xs)) (h2 : Rs A a2 (bys ys)) (e1 : xs.length = m1) (e2 : ys.length = m2) (hl : m1 + m2 ≤ 17592186044416) :
    Fn Tryz.prog 104 #[.slice (some ⟨b, 0, none⟩) 2 2] (A * pt b (cl [.slice a1 m1 c1, .slice a2 m2 c2] E)) (fun r B => ∃ a c, r = .slice a (m1 + m2) c ∧ m1 + m2 ≤ c ∧ B = A * pt b (cl [.slice a1 m1 c1, .slice a2 m2 c2] E) * Sl 1 (.slice a (m1 + m2) c) (m1 + m2) (bys (xs ++ ys))) := by
  subst e1 e2
  refine fn_rs (xs := [.slice a1 xs.length c1, .slice a2 ys.length c2]) rs_pt0 fun hr => ?_; refine fn_rs h1.left fun h1 => fn_rs h2.left fun h2 => ?_
  have key := JoinN_f (A * pt b (cl [.slice a1 xs.length c1, .slice a2 ys.length c2] E)) (some ⟨b, 0, none⟩) 2 2 [xs, ys] ⟨_, rfl, hr, fun i hi => by
    match i, hi with
    | 0, _ => exact ⟨a1, c1, rfl, h1⟩
    | 1, _ => exact ⟨a2, c2, rfl, h2⟩⟩ (by simp; omega) (by simp) rfl
  have e : ([xs, ys] : List (List Nat)).flatten = xs ++ ys := by simp
  rw [e] at key
  have e3 : (xs ++ ys).length = xs.length + ys.length := by simp
  rw [e3] at key
  exact fn_sl key
attribute [local irreducible] crk crL crc Sl pt ro
theorem Two_c {A : SP} {a1 a2 : Option Addr} {m1 m2 c1 c2 : Nat} {xs ys : List Nat} (h1 : Rs A a1 (bys xs) := by repeat (first | assumption | with_reducible exact rs_sl | with_reducible exact rs_pt0 | exact rs_none | apply Rs.left)) (h2 : Rs A a2 (bys ys) := by repeat (first | assumption | with_reducible exact rs_sl | with_reducible exact rs_pt0 | exact rs_none | apply Rs.left)) (e1 : xs.length = m1 := by first | assumption | rfl) (e2 : ys.length = m2 := by first | assumption | rfl) (hl : m1 + m2 ≤ 17592186044416 := by omega) :
    Fn Tryz.prog 102 #[.slice a1 m1 c1, .slice a2 m2 c2] (A) (fun r B => ∃ a c, r = .slice a (m1 + m2) c ∧ m1 + m2 ≤ c ∧ B = A * Sl 1 (.slice a (m1 + m2) c) (m1 + m2) (bys (xs ++ ys))) := by
  refine fn_enterW (args := [.slice a1 m1 c1, .slice a2 m2 c2]) Tryz.func102 rfl Tryz.ntmps102 (by simp) ?_; refine sr ?_; refine tla ?_; refine nq ?_; refine sr ?_; refine tlm ?_; refine tlm ?_; refine tl_x rfl (o_buildSliceL (k := 1) (vs := [.slice a1 m1 c1, .slice a2 m2 c2]) (l := [.slice a1 m1 c1, .slice a2 m2 c2]) Tryz.underlying75 sz22 z22 rfl rfl (by decide) (by decide) (by intro v hv; simp at hv; rcases hv with rfl | rfl <;> rfl) rfl) ?_; rintro _ _ ⟨b7, rfl, rfl⟩; refine tl_c rfl (o_call bd104 rfl (Two_j h1 h2 e1 e2 hl)) ?_; rintro _ _ ⟨a8, c8, rfl, hc8, rfl⟩; refine tla ?_; refine nq ?_; refine tc_ret ?_; exact ⟨_, _, res1 rfl rfl, Dr.sat drqz, a8, c8, rfl, hc8, rfl⟩
end Go.Vl

namespace Go.Vl
open Go Go.Proofs
def planL (n : Int) : List Int := [n, 128, 32768, 32896, (n - 32896) / 256]
def planT (n : Int) : List Int × Int := if 36992 ≤ n ∧ n ≤ 4194304 ∧ n % 64 = 0 then (planL n, 0) else ([0, 0, 0, 0, 0], 80)
end Go.Vl

namespace Go.Vl
open Go Go.Proofs
def magicB : List Nat := [86, 69, 76, 76, 85, 77, 48, 49]
def mbs (ns : List Nat) : List Nat := magicB ++ ns.flatMap (le 8)
def sbB (ns : List Nat) : List Nat := mbs ns ++ le 8 (crc 0 (mbs ns))
end Go.Vl

namespace Go.Vl
open Go Go.Proofs
def lineT (q0 q1 q2 q3 q4 : Int) : List Nat × Int := if planT q0 = ([q0, q1, q2, q3, q4], 0) then (sbB [q0.toNat, 128, 32768, 32896, (q0.toNat - 32896) / 256, 0], 0) else ([], 100)
end Go.Vl

namespace Go.Vl
open Go Go.Proofs
theorem hsqz {p : Prop} (h : p := by repeat (first | with_reducible exact has_here | with_reducible exact has_pt | apply has_left)) : p := h
/-- A device of which some lines are laid. -/
def fromP (n : Nat) (xs : List Nat) (i : Nat) : DevS := { newS n with ls := pm (fun j _ => lineF xs j) i (newS n).ls }
theorem fromP_zero (n : Nat) (xs : List Nat) : fromP n xs 0 = newS n := by unfold fromP; rw [pm_zero]
theorem fromP_all (n : Nat) (xs : List Nat) : fromP n xs n = fromS n xs := by
  have h : (newS n).ls.length = n := by simp [newS]
  have := pm_all (fun j _ => lineF xs j) (newS n).ls
  rw [h] at this
  unfold fromP fromS; rw [this]
theorem fromP_len (n : Nat) (xs : List Nat) (i : Nat) : (fromP n xs i).ls.length = n := by simp [fromP, pm_length, newS]
theorem fromP_at {n : Nat} (xs : List Nat) {i : Nat} (h : i < n) : (fromP n xs i).ls[i]'(by rw [fromP_len]; exact h) = zline := by
  simp only [fromP]
  rw [pm_at _ (by simpa [newS] using h)]; simp [newS]
theorem fromP_set {n : Nat} (xs : List Nat) {i : Nat} (h : i < n) : { fromP n xs i with ls := (fromP n xs i).ls.set i (lineF xs i) } = fromP n xs (i + 1) := by
  have hl : i < (newS n).ls.length := by simpa [newS] using h
  have := pm_set (fun j _ => lineF xs j) hl
  unfold fromP; simp only [this]
theorem fromP_wf {n : Nat} {xs : List Nat} {i : Nat} (h : 0 < n) (h2 : n ≤ 65536) (hb : ∀ x ∈ xs, x < 256) : WfD (fromP n xs i) :=
  ⟨by rw [fromP_len]; exact h, by rw [fromP_len]; exact h2, fun l hl => by
    obtain ⟨j, hj, rfl⟩ := List.mem_iff_getElem.1 hl
    simp only [fromP, pm, List.getElem_mapIdx]
    split
    · exact lineF_wf hb _
    · simp only [newS, List.getElem_replicate]; exact zline_wf, by simp [fromP, newS], by simp [fromP, newS], by simp [fromP, newS]⟩
def lineW (xs : List Nat) (i k : Nat) : List Nat := pm (fun k _ => wordF xs i k) k (List.replicate 8 0)
theorem lineW_zero (xs : List Nat) (i : Nat) : lineW xs i 0 = List.replicate 8 0 := pm_zero _ _
theorem lineW_set (xs : List Nat) (i : Nat) {k : Nat} (h : k < 8) : (lineW xs i k).set k (wordF xs i k) = lineW xs i (k + 1) := by
  have := pm_set (fun k _ => wordF xs i k) (l := List.replicate 8 0) (k := k) (by simpa using h)
  exact this
theorem lineW_all (xs : List Nat) (i : Nat) : (⟨[lineW xs i 8], -1⟩ : LineS) = lineF xs i := by
  have := pm_all (fun k _ => wordF xs i k) (List.replicate 8 0)
  rw [List.length_replicate] at this
  unfold lineF lineW; rw [this]
theorem From_c {F : SP} {a : Option Addr} {c m : Nat} {xs : List Nat} (n : Nat) (hr : Rs F a (bys xs) := by repeat (first | assumption | with_reducible exact rs_sl | with_reducible exact rs_pt0 | exact rs_none | apply Rs.left)) (hx : xs.length = m := by first | assumption | rfl) (hm : m = n * 64 := by omega) (hb : ∀ x ∈ xs, x < 256 := by assumption) (hn : 0 < n := by omega) (hn2 : n ≤ 65536 := by omega) :
    Fn Tryz.prog 5 #[.slice a m c] (F) (fun r B => ∃ d, r = .tuple #[.pointer (some ⟨d, 0, none⟩), .int .i64 0] ∧ B = F * Dev d (fromS n xs)) := by
  refine fn_enterW (args := [.slice a m c]) Tryz.func5 rfl Tryz.ntmps5 (by simp) ?_; refine sr ?_; refine tla ?_; refine tla ?_; refine nq ?_; refine sr ?_; refine tlm ?_; refine tv (o_len Tryz.underlying22 rfl) ?_; refine tl_c rfl (o_call bd19 rfl (New_c (n := n))) ?_; rintro _ _ ⟨d12, rfl, rfl⟩; refine tlm ?_; refine tv (o_extract rfl rfl) ?_; refine tv (o_extract rfl rfl) ?_; refine tla ?_; refine tla ?_; refine nq ?_; refine tc_seq ?_; refine sr ?_; refine tlm ?_; refine tv (o_nei rfl rfl) ?_; refine nq ?_; refine tc_cond rfl (fun h => ?_) (fun h => ?_)
  · (exfalso; first | (revert h; simp; done) | (simp at h; done) | (revert h; simp; omega) | (simp at h; omega) | omega)
  · try simp only [lv1, lv2, lv3, lv4, lv5, lv6, Bool.not_true, Bool.not_false] at h
    refine tc_skip ?_; refine q_then_n ?_; refine tc_seq ?_; refine sr ?_; refine tlm ?_; refine tv (o_nilCheck rfl) ?_; refine tv (o_fieldAddr (o := 0) Tryz.underlying64 rfl rfl sz62 rfl) ?_
    rw [← fromP_zero n xs]
    refine tl_dev fun hw bl svs av kvs hsv hkv => ?_; refine tv (o_load p62 rfl devC_d rfl) ?_; refine tv (o_len Tryz.underlying62 rfl) ?_
    rw [fromP_len]
    refine tl_pre (dev_back hw hsv hkv) ?_; refine tlm ?_; refine nq ?_; refine tc_block ?_; refine tc_loop (fun kk ρ BB => ∃ (i : Nat), (i ≤ n) ∧ kk = n - i ∧ ρ 23 = .int .i64 (i : Nat) ∧ ρ 0 = .slice a m c ∧ ρ 4 = .pointer (some ⟨d12, 0, none⟩) ∧ ρ 22 = .int .i64 (n : Nat) ∧ BB = F * Dev d12 (fromP n xs i)) (m := n - (0)) ?_ ?_
    · exact ⟨0, by omega, rfl, rfl, rfl, rfl, rfl, rfl⟩
    · intro k ρ B hI
      obtain ⟨i, hp0, hkk1, hE23, hE0, hE4, hE22, rfl⟩ := hI
      refine tc_env (d := 23) hE23 ?_; refine tc_env (d := 0) hE0 ?_; refine tc_env (d := 4) hE4 ?_; refine tc_env (d := 22) hE22 ?_
      clear hE23 hE0 hE4 hE22
      refine sr ?_; refine tv (o_lss rfl rfl) ?_; refine nq ?_; refine tc_seq ?_; refine tc_cond rfl (fun h => ?_) (fun h => ?_)
      · try simp only [lv1, lv2, lv3, lv4, lv5, lv6, Bool.not_true, Bool.not_false] at h
        refine tc_skip ?_; refine q_then_n ?_; refine tc_seq ?_; refine tc_block ?_; refine sr ?_; refine tlm ?_; refine tla ?_; refine nq ?_; refine sr ?_; refine tlm ?_; refine tv (o_nilCheck rfl) ?_; refine tv (o_fieldAddr (o := 0) Tryz.underlying64 rfl rfl sz62 rfl) ?_; refine tl_dev fun hw bl svs av kvs hsv hkv => ?_
        have hi : i < (fromP n xs i).ls.length := by rw [fromP_len]; omega
        obtain ⟨R, hf1, hf2⟩ := devC_focus (d := d12) (bl := bl) (kvs := kvs) (av := av) (s := fromP n xs i) hsv hi
        refine tl_eq (hf1 F) ?_
        rw [fromP_at xs (show i < n by omega)]
        refine tl_have (fun _ _ h => sl_have' rfl h) fun ⟨a', c', hvv, hn', hl', hrd⟩ => ?_
        rw [hvv] at hrd ⊢
        obtain ⟨b, o, rfl, _⟩ := hrd.some (by decide)
        have hsl : svs.length = n := by rw [hsv, fromP_len]
        have hcell : (lcs svs (fromP n xs i).ls)[i * 2 + 0]? = some (.slice (some ⟨b, o, none⟩) 1 c') := by rw [Nat.add_zero, lcs_sv hsv oqz, hvv]; rfl
        rw [show (fromP n xs i).ls.length = n from fromP_len n xs i]
        refine tv (by first | exact o_load p62 rfl hsqz rfl | exact o_loadC p62 rfl (by assumption)) ?_; refine tlm ?_; refine tv (o_indexAddrN Tryz.underlying62 sz71 rfl rfl oqz) ?_; refine tv (o_fieldAddr (o := 0) Tryz.underlying71 rfl rfl sz69 rfl) ?_; refine tv (o_loadC p69 rfl (cell_of_has hsqz (by rw [Nat.zero_add]; exact hcell))) ?_; refine tv (o_indexAddrN (j := 0) Tryz.underlying69 sz68 rfl rfl (by decide)) ?_; refine tla ?_; refine nq ?_; refine sr ?_; refine tlm ?_; refine nq ?_; refine tc_block ?_; refine tc_loop (fun kk ρ BB => ∃ (k : Nat), (k ≤ 8) ∧ kk = 8 - k ∧ ρ 35 = .int .i64 (k : Nat) ∧ ρ 0 = .slice a m c ∧ ρ 4 = .pointer (some ⟨d12, 0, none⟩) ∧ ρ 6 = .int .i64 (i : Nat) ∧ ρ 7 = .pointer (some ⟨b, o, none⟩) ∧ ρ 22 = .int .i64 (n : Nat) ∧ ρ 23 = .int .i64 (i : Nat) ∧ BB = F * R * pt bl (cl (lcs svs (fromP n xs i).ls) 71) * pt d12 (cl (dcs bl n (fromP n xs i) av) 64) * Sl 8 (.slice (some ⟨b, o, none⟩) 1 c') 1 (wds (lineW xs i k))) (m := 8 - (0)) ?_ ?_
        · exact ⟨0, by omega, rfl, rfl, rfl, rfl, rfl, rfl, rfl, rfl, by rw [lineW_zero]; rfl⟩
        · intro k ρ B hI
          obtain ⟨k, hp0, hkk2, hE35, hE0, hE4, hE6, hE7, hE22, hE23, rfl⟩ := hI
          refine tc_env (d := 35) hE35 ?_; refine tc_env (d := 0) hE0 ?_; refine tc_env (d := 4) hE4 ?_; refine tc_env (d := 6) hE6 ?_; refine tc_env (d := 7) hE7 ?_; refine tc_env (d := 22) hE22 ?_; refine tc_env (d := 23) hE23 ?_
          clear hE35 hE0 hE4 hE6 hE7 hE22 hE23
          refine sr ?_; refine tv (o_lss rfl rfl) ?_; refine nq ?_; refine tc_seq ?_; refine tc_cond rfl (fun h => ?_) (fun h => ?_)
          · try simp only [lv1, lv2, lv3, lv4, lv5, lv6, Bool.not_true, Bool.not_false] at h
            refine tc_skip ?_; refine q_then_n ?_; refine tc_seq ?_; refine tc_block ?_; refine sr ?_; refine tlm ?_; refine tla ?_; refine nq ?_; refine tc_regh (S := F * R * pt bl (cl (lcs svs (fromP n xs i).ls) 71) * pt d12 (cl (dcs bl n (fromP n xs i) av) 64)) mo drqz ?_
            show TH _ _ _ _ _ 15 #[ff,ff,ff,ff,ff,ff,ff,ff,ff,ff,ff,ff,ff,ff,ff] _ _
            refine th_take (i := 0) (listed' := #[tt,ff,ff,ff,ff,ff,ff,ff,ff,ff,ff,ff,ff,ff,ff]) rfl kqz kqz kqz rfl rfl (o_move (by conv => lhs; whnf)) ?_; refine th_take (i := 1) (listed' := #[tt,tt,ff,ff,ff,ff,ff,ff,ff,ff,ff,ff,ff,ff,ff]) rfl kqz kqz kqz rfl rfl (o_move (by conv => lhs; whnf)) ?_; refine th_take (i := 2) (listed' := #[tt,tt,tt,ff,ff,ff,ff,ff,ff,ff,ff,ff,ff,ff,ff]) rfl kqz kqz kqz rfl rfl (o_move (by conv => lhs; whnf)) ?_; refine th_take (i := 3) (listed' := #[tt,tt,tt,tt,ff,ff,ff,ff,ff,ff,ff,ff,ff,ff,ff]) rfl kqz kqz kqz rfl rfl (o_move (by conv => lhs; whnf)) ?_; refine th_take (i := 4) (listed' := #[tt,tt,tt,tt,tt,ff,ff,ff,ff,ff,ff,ff,ff,ff,ff]) rfl kqz kqz kqz rfl rfl (by first | exact o_mulI rfl rfl oqz | exact o_mul rfl rfl) ?_; refine th_take (i := 5) (listed' := #[tt,tt,tt,tt,tt,tt,ff,ff,ff,ff,ff,ff,ff,ff,ff]) rfl kqz kqz kqz rfl rfl (o_move (by conv => lhs; whnf)) ?_; refine th_take (i := 6) (listed' := #[tt,tt,tt,tt,tt,tt,tt,ff,ff,ff,ff,ff,ff,ff,ff]) rfl kqz kqz kqz rfl rfl (by first | exact o_mulI rfl rfl oqz | exact o_mul rfl rfl) ?_; refine th_take (i := 7) (listed' := #[tt,tt,tt,tt,tt,tt,tt,tt,ff,ff,ff,ff,ff,ff,ff]) rfl kqz kqz kqz rfl rfl adqz ?_
            refine th_env (d := 46) (v := .int .i64 ((i * 64 + k * 8 : Nat) : Int)) (rfl) ?_; refine th_take (i := 12) (listed' := #[tt,tt,tt,tt,tt,tt,tt,tt,ff,ff,ff,ff,tt,ff,ff]) rfl kqz kqz kqz rfl rfl (o_nilCheck rfl) ?_; refine th_one (i := 8) kqz ?_; refine oh_c (i := 8) (listed' := #[tt,tt,tt,tt,tt,tt,tt,tt,tt,ff,ff,ff,tt,ff,ff]) rfl rfl rfl (o_call bd20 rfl (Take64_c)) ?_; rintro _ _ ⟨rfl, rfl⟩; refine ⟨by repeat (first | with_reducible exact dr_refl | apply dr_keep | apply dr_drop), ?_⟩; refine th_take (i := 9) (listed' := #[tt,tt,tt,tt,tt,tt,tt,tt,tt,tt,ff,ff,tt,ff,ff]) rfl kqz kqz kqz rfl rfl (o_move (by conv => lhs; whnf)) ?_; refine th_take (i := 10) (listed' := #[tt,tt,tt,tt,tt,tt,tt,tt,tt,tt,tt,ff,tt,ff,ff]) rfl kqz kqz kqz rfl rfl (o_extract rfl rfl) ?_; refine th_take (i := 11) (listed' := #[tt,tt,tt,tt,tt,tt,tt,tt,tt,tt,tt,tt,tt,ff,ff]) rfl kqz kqz kqz rfl rfl (o_extract rfl rfl) ?_; refine th_take (i := 13) (listed' := #[tt,tt,tt,tt,tt,tt,tt,tt,tt,tt,tt,tt,tt,tt,ff]) rfl kqz kqz kqz rfl rfl (o_indexAddrAN1 (j := k) Tryz.underlying68 sz66 rfl rfl oqz) ?_; refine th_one (i := 14) kqz ?_; refine oh_u (i := 14) (listed' := #[tt,tt,tt,tt,tt,tt,tt,tt,tt,tt,tt,tt,tt,tt,tt]) rfl rfl rfl (o_storeSlK (i := k) (k := 8) (m := 1) (xs := wds (lineW xs i k)) (ys := wds ((lineW xs i k).set k (wordF xs i k))) sz66 rfl rfl rfl oqz (wds_set' _ _ _) (by repeat (first | with_reducible exact foc_here | apply foc_left))) drqz ?_
            refine th_done kqz ?_; refine q_block_n (q_then_n ?_); refine tc_reg ?_; refine tv adqz ?_; refine tlm ?_; refine nq ?_; exact ⟨_, by omega, k + 1, by omega, rfl, rfl, rfl, rfl, rfl, rfl, rfl, rfl, by rw [← lineW_set xs i oqz]⟩
          · try simp only [lv1, lv2, lv3, lv4, lv5, lv6, Bool.not_true, Bool.not_false] at h
            refine tc_exit ?_; refine q_then_e (q_then_e (q_block_x (q_block_n (q_then_n ?_)))); refine tc_reg ?_
            obtain rfl : k = 8 := by omega
            have hfin := hf2 F (.slice (some ⟨b, o, none⟩) 1 c') (lineF xs i)
            refine tl_eq (A' := F * DevC d12 bl (svs.set i (.slice (some ⟨b, o, none⟩) 1 c')) av kvs { fromP n xs i with ls := (fromP n xs i).ls.set i (lineF xs i) }) ?_ ?_
            · rw [← hfin, ← lineW_all]
              have e1 : lcs (svs.set i (.slice (some ⟨b, o, none⟩) 1 c')) ((fromP n xs i).ls.set i ⟨[lineW xs i 8], -1⟩) = lcs svs (fromP n xs i).ls := by
                rw [← lcs_set_sv (⟨[lineW xs i 8], -1⟩ : LineS) hsv hi (by rw [fromP_at xs (show i < n by omega)]; rfl)]
                have h1 : i * 2 < (lcs svs (fromP n xs i).ls).length := by rw [lcs_length hsv]; omega
                have h2 := List.getElem?_eq_getElem h1
                rw [Nat.add_zero] at hcell
                rw [hcell] at h2
                rw [Option.some.inj h2]
                exact set_getElem h1
              rw [e1, fromP_len]; rfl
            refine tl_pre (dev_back (by rw [fromP_set xs (show i < n by omega)]; exact fromP_wf hn hn2 hb) (by simp [hsv]) hkv) ?_
            rw [fromP_set xs (show i < n by omega)]
            refine tv adqz ?_; refine tlm ?_; refine nq ?_; exact ⟨_, by omega, i + 1, by omega, rfl, rfl, rfl, rfl, rfl, rfl⟩
      · try simp only [lv1, lv2, lv3, lv4, lv5, lv6, Bool.not_true, Bool.not_false] at h
        refine tc_exit ?_; refine q_then_e (q_then_e (q_block_x (q_then_n ?_))); refine sr ?_; refine tlm ?_; refine tla ?_; refine tla ?_; refine nq ?_; refine tc_ret ?_
        obtain rfl : i = n := by omega
        rw [fromP_all]
        exact ⟨_, _, res2 rfl rfl rfl, fun _ _ h => h, d12, rfl, rfl⟩
end Go.Vl

namespace Go.Vl
open Go Go.Proofs
theorem sq2z {p : Prop} (h : p := by repeat (first | assumption | with_reducible exact rs_sl | with_reducible exact rs_pt0 | exact rs_none | apply Rs.left)) : p := h
theorem upqz {p : Prop} (h : p := by repeat (first | with_reducible exact upd_here | with_reducible exact upd_pt | apply upd_left)) : p := h
theorem doneE_ok {s : DevS} (h : doneE s = 0) : (doneS s).off = s.off ∧ (doneS s).ls = s.ls := by
  unfold doneE at h; unfold doneS
  split <;> rename_i e
  · exact ⟨rfl, rfl⟩
  · rw [e] at h
    split
    · exact ⟨rfl, rfl⟩
    · rename_i h1; simp [h1] at h
theorem layS_off (p v : Nat) (s : DevS) : (layS p v s).off = s.off := (onLine_fields _ _ s).2.2.2.1
theorem layS_len (p v : Nat) (s : DevS) : (layS p v s).ls.length = s.ls.length := (onLine_fields _ _ s).2.2.2.2
theorem stW_len {p : Nat} {b : List Nat} {s : DevS} : (stW p b s).length = 8 := by
  unfold stW; rw [spl_length, le_length]; rw [le_length, List.length_take]; omega
theorem stW_bytes {p : Nat} {b : List Nat} {s : DevS} (hb : ∀ x ∈ b, x < 256) : ∀ x ∈ stW p b s, x < 256 := fun x hx => by
  unfold stW spl at hx
  simp only [List.mem_append] at hx
  rcases hx with (h | h) | h
  · exact le_bytes _ _ _ (List.mem_of_mem_take h)
  · exact hb _ (List.mem_of_mem_take h)
  · exact le_bytes _ _ _ (List.mem_of_mem_drop h)
theorem storeF_step {p : Nat} {b : List Nat} {s : DevS} (h : b ≠ []) : storeF b.length p b s = if doneE (layS (p - p % 8) (nm (stW p b s)) s) ≠ 0 then (doneE (layS (p - p % 8) (nm (stW p b s)) s), doneS (layS (p - p % 8) (nm (stW p b s)) s))
    else storeF (b.drop (8 - p % 8)).length (p + min b.length (8 - p % 8)) (b.drop (8 - p % 8)) (doneS (layS (p - p % 8) (nm (stW p b s)) s)) := by
  match b, h with
  | x :: l, _ =>
    show storeF (l.length + 1) p (x :: l) s = _
    conv => lhs; unfold storeF
    rw [if_neg (by simp)]
    split
    · rfl
    · rw [Nat.min_comm]; exact storeF_fuel _ _ (by rw [List.length_drop, List.length_cons]; omega) (Nat.le_refl _)
theorem stW_cells {p n : Nat} {b : List Nat} {s : DevS} {w : Nat} (hw : w = (seenL (s.ls.getD (p / 64) zline)).getD (p % 64 / 8) 0) (hn : n = min b.length (8 - p % 8)) : splice (bys (le 8 w)) (p % 8) ((bys b).take n) = bys (stW p b s) := by
  have h1 : (bys b).take n = bys (b.take (8 - p % 8)) := by
    unfold bys; rw [← List.map_take]; congr 1
    rw [hn]
    rcases Nat.le_total b.length (8 - p % 8) with h | h
    · rw [Nat.min_eq_left h, List.take_length, List.take_of_length_le h]
    · rw [Nat.min_eq_right h]
  rw [h1, splice_spl (by simp only [bys_length, le_length, List.length_take]; omega), spl_bys, hw]; rfl
theorem stW_nm {p : Nat} {b : List Nat} {s : DevS} (hb : ∀ x ∈ b, x < 256) : nm (stW p b s) < 18446744073709551616 := by
  have := nm_lt _ (stW_bytes (p := p) (s := s) hb)
  rw [stW_len] at this; exact this
theorem seenL_getD {s : DevS} {i : Nat} (h : i < s.ls.length) : s.ls.getD i zline = s.ls[i] := by simp [List.getD, h]
set_option maxRecDepth 20000 in
set_option maxHeartbeats 1000000 in
theorem StoreW_f (F : SP) {a : Option Addr} {c m d : Nat} {p0 : Int} {s : DevS} {xs : List Nat} (hr : Rs F a (bys xs)) (hm : xs.length = m) (hmc : m ≤ c) (hb : ∀ x ∈ xs, x < 256) (hml : m ≤ 140737488351232) (hp : -9223372036854775808 ≤ p0 ∧ p0 ≤ 9223372036854775807) (hroom : rdy s.ls.length s.off p0 m = 0 → Room m s) :
    Fn Tryz.prog 24 #[.pointer (some ⟨d, 0, none⟩), .int .i64 p0, .slice a m c] (F * Dev d s) (fun r B => r = .int .i64 (sto p0 xs s).1 ∧ B = F * Dev d (sto p0 xs s).2) := by
  have hE := @fn_enterW Tryz.prog 24 Tryz.f24 _ [.pointer (some ⟨d, 0, none⟩), .int .i64 p0, .slice a m c] (F * Dev d s) (fun r B => r = .int .i64 (sto p0 xs s).1 ∧ B = F * Dev d (sto p0 xs s).2) _ Tryz.func24 rfl Tryz.ntmps24 (by simp)
  refine hE ?_
  clear hE
  refine tc_dev fun hw _ _ _ _ _ _ => ?_
  have hpos := hw.pos
  have htop := hw.top
  refine tc_pre (dev_back hw ‹_› ‹_›) ?_; refine sr ?_; refine tla ?_; refine nq ?_; refine tc_seq ?_; refine sr ?_; refine tlm ?_; refine tlm ?_; refine tlm ?_; refine tv (o_len Tryz.underlying22 rfl) ?_; refine tl_c rfl (o_call bd64 rfl (ready_c)) ?_; rintro _ _ ⟨rfl, rfl⟩; refine tla ?_; refine nq ?_; refine sr ?_; refine tlm ?_; refine tv (o_nei rfl rfl) ?_; refine nq ?_; refine tc_cond rfl (fun h => ?_) (fun h => ?_)
  · try simp only [lv1, lv2, lv3, lv4, lv5, lv6, Bool.not_true, Bool.not_false] at h
    refine sr ?_; refine tlm ?_; refine tla ?_; refine nq ?_; refine tc_ret ?_; refine q_then_r ?_
    have hs : sto p0 xs s = (rdy s.ls.length s.off p0 m, s) := by unfold sto; rw [hm, if_pos h]
    rw [hs]
    exact ⟨_, _, res1 rfl rfl, fun _ _ h => h, rfl, rfl⟩
  · simp only [bne_iff_ne, ne_eq, decide_eq_false_iff_not, Decidable.not_not] at h
    have hr0 := rdy0 h
    obtain ⟨q, rfl⟩ := Int.eq_ofNat_of_zero_le hr0.2.1
    have hsto : sto (q : Int) xs s = storeF xs.length q xs s := by unfold sto; rw [hm, if_neg oqz]; rfl
    rw [hsto]
    refine tc_skip ?_; refine q_then_n ?_; refine tc_seq ?_; refine tc_block ?_; refine tc_loop (fun kk ρ BB => ∃ (p : Nat) (m1 : Nat) (c1 : Nat) (a1 : Option Addr) (b : List Nat) (s1 : DevS), (storeF b.length p b s1 = storeF xs.length q xs s) ∧ (b.length = m1) ∧ (Rs F a1 (bys b)) ∧ (∀ x ∈ b, x < 256) ∧ (m1 ≤ c1) ∧ (p + m1 ≤ s1.ls.length * 64) ∧ (s1.off = false) ∧ (Room m1 s1) ∧ (m1 ≤ m) ∧ (s1.ls.length = s.ls.length) ∧ kk = m1 ∧ ρ 1 = .int .i64 (p : Nat) ∧ ρ 2 = .slice a1 m1 c1 ∧ ρ 0 = .pointer (some ⟨d, 0, none⟩) ∧ BB = F * Dev d s1) (m := (m)) ?_ ?_
    · exact ⟨q, m, c, a, xs, s, rfl, hm, hr, hb, hmc, by omega, hr0.1, hroom h, Nat.le_refl _, rfl, rfl, rfl, rfl, rfl, rfl⟩
    · intro k ρ B hI
      obtain ⟨p, m1, c1, a1, b, s1, hp0, hp1, hp2, hp3, hp4, hp5, hp6, hp7, hp8, hp9, hkk1, hE1, hE2, hE0, rfl⟩ := hI
      refine tc_env (d := 1) hE1 ?_; refine tc_env (d := 2) hE2 ?_; refine tc_env (d := 0) hE0 ?_
      clear hE1 hE2 hE0
      refine tc_seq ?_; refine sr ?_; refine tlm ?_; refine tv (o_len Tryz.underlying22 rfl) ?_; refine tv (o_gtr rfl rfl) ?_; refine nq ?_; refine tc_cond rfl (fun h => ?_) (fun h => ?_)
      · simp only [decide_eq_true_eq, gt_iff_lt] at h
        have hb0 : b ≠ [] := by intro e; subst e; simp at hp1; omega
        have hpl : p / 64 < s1.ls.length := by omega
        have hpn : p ≤ 4194304 := by omega
        refine tc_skip ?_; refine q_then_n ?_; refine tc_block ?_; refine sr ?_; refine tlm ?_; refine tlm ?_; refine tv (o_remN (b := 8) rfl rfl oqz) ?_; refine tv (by first | exact o_subI rfl rfl oqz | exact o_sub rfl rfl) ?_; refine tl_env (d := 29) (v := .int .i64 ((p - p % 8 : Nat) : Int)) (by show Value.int .i64 ((p : Int) - ((p % 8 : Nat) : Int)) = _; congr 1; omega) ?_; refine tla ?_; refine nq ?_; refine sr ?_; refine tlm ?_; refine tv (o_nilCheck rfl) ?_; refine tl_dev fun hw1 bl svs av kvs hsv hkv => ?_; refine tl_have (fun _ _ h => devR_of hw1 hsv h) fun hR => ?_
        have hwl := hw1.line _ (List.getElem_mem hpl)
        have hs8 := hwl.eight _ (seenL_mem hwl)
        have hq1 : (p - p % 8) / 64 = p / 64 := by omega
        have hq2 : (p - p % 8) % 64 / 8 = p % 64 / 8 := by omega
        refine tv (o_fieldAddr (o := 0) Tryz.underlying64 rfl rfl sz62 rfl) ?_; refine tv (o_load p62 rfl devC_d rfl) ?_; refine tlm ?_; refine tv (o_quoN (b := 64) rfl rfl oqz) ?_; refine tv (o_indexAddrN (j := p / 64) Tryz.underlying62 sz71 rfl (by show Value.int .i64 _ = Value.int .i64 _; congr 2) hpl) ?_; refine tl_c rfl (o_call bd52 rfl (seenR_f hR hpl)) ?_; rintro _ _ ⟨rfl, rfl⟩; refine tl_pre (dev_back hw1 hsv hkv) ?_; refine tl_x rfl (o_alloc z68 rfl) ?_; rintro _ _ ⟨b9, rfl, rfl⟩; refine tl_u rfl (o_stUN (l' := wds (seenL s1.ls[p / 64])) rfl upd_here sz68 rfl (by rw [wds_length]; exact hs8) (wds_all _) (by simp) (splice_all (by rw [wds_length, hs8]; rfl))) ?_; refine nq ?_; refine sr ?_; refine tl_x rfl (o_alloc z121 rfl) ?_; rintro _ _ ⟨b10, rfl, rfl⟩; refine nq ?_; refine tc_seq ?_; refine tc_regh (S := F * Dev d s1 * pt b9 (cl (wds (seenL s1.ls[p / 64])) 68)) mo drqz ?_
        show TH _ _ _ _ _ 8 #[ff,ff,ff,ff,ff,ff,ff,ff] _ _
        refine th_take (i := 0) (listed' := #[tt,ff,ff,ff,ff,ff,ff,ff]) rfl kqz kqz kqz rfl rfl (o_sliceA Tryz.underlying121 sz5 rfl bnd_none bnd_none oqz oqz) ?_; refine th_take (i := 1) (listed' := #[tt,tt,ff,ff,ff,ff,ff,ff]) rfl kqz kqz kqz rfl rfl (o_move (by conv => lhs; whnf)) ?_; refine th_take (i := 2) (listed' := #[tt,tt,tt,ff,ff,ff,ff,ff]) rfl kqz kqz kqz rfl rfl (o_remN (b := 64) rfl rfl oqz) ?_; refine th_take (i := 3) (listed' := #[tt,tt,tt,tt,ff,ff,ff,ff]) rfl kqz kqz kqz rfl rfl (o_quoN (b := 8) rfl rfl oqz) ?_; refine th_take (i := 4) (listed' := #[tt,tt,tt,tt,tt,ff,ff,ff]) rfl kqz kqz kqz rfl rfl (o_indexAddrAN1 (j := p % 64 / 8) Tryz.underlying68 sz66 rfl (by show Value.int .i64 _ = Value.int .i64 _; congr 2) oqz) ?_; refine th_take (i := 5) (listed' := #[tt,tt,tt,tt,tt,tt,ff,ff]) rfl kqz kqz kqz rfl rfl (o_load p66 rfl hsqz (by rw [Nat.zero_add]; exact wds_at (i := p % 64 / 8) (by rw [hs8]; omega))) ?_; refine th_one (i := 6) kqz ?_; refine oh_c (i := 6) (listed' := #[tt,tt,tt,tt,tt,tt,tt,ff]) rfl rfl rfl (o_call bd65 rfl (Put64_c (xs := []) (hv := hwl.words _ (seenL_mem hwl) _ (List.getElem_mem _)))) ?_
        rintro _ _ ⟨a44, c44, rfl, hc44, rfl⟩; refine ⟨by repeat (first | with_reducible exact dr_refl | apply dr_keep | apply dr_drop), ?_⟩; refine th_one (i := 7) kqz ?_; refine oh_x (i := 7) (listed' := #[tt,tt,tt,tt,tt,tt,tt,tt]) rfl rfl rfl (o_cpB (m := 8) (l' := bys (le 8 ((seenL s1.ls[p / 64])[p % 64 / 8]'(by rw [hs8]; omega)))) rfl upqz Tryz.underlying22 sz5 rfl sq2z (by rw [bys_length, List.nil_append, le_length]) rfl (bys_all _) (by simp) (by rw [List.nil_append, List.take_of_length_le (by rw [bys_length, le_length]; omega)]; exact splice_all (by rw [bys_length, le_length]; rfl))) ?_; rintro _ _ ⟨rfl, rfl⟩; refine ⟨by repeat (first | with_reducible exact dr_refl | apply dr_keep | apply dr_drop), ?_⟩; refine th_done kqz ?_; refine q_then_n ?_; refine sr ?_; refine tlm ?_; refine tlm ?_; refine tv (by first | exact o_subI rfl rfl oqz | exact o_sub rfl rfl) ?_; refine tl_env (d := 48) (v := .int .i64 ((p % 8 : Nat) : Int)) (by show Value.int .i64 ((p : Int) - ((p - p % 8 : Nat) : Int)) = _; congr 1; omega) ?_; refine tv (o_sliceA Tryz.underlying121 sz5 rfl (bnd_nat rfl) bnd_none oqz oqz) ?_; refine tl_env (d := 49) (v := .slice (some ⟨b10, p % 8, none⟩) (8 - p % 8) (8 - p % 8)) (by show Value.slice (cutAddr _ _ _ _) _ _ = _; rw [cut_lt oqz]; simp) ?_
        refine tlm ?_; refine tl_x rfl (o_cpB (m := min m1 (8 - p % 8)) (xs := bys b) (l' := bys (stW p b s1)) rfl upqz Tryz.underlying22 sz5 rfl sq2z (by rw [bys_length, hp1]) rfl (bys_all _) (by rw [bys_length, le_length]; omega) (stW_cells (by rw [seenL_getD hpl]; simp [List.getD, hs8, show p % 64 / 8 < 8 by omega]) (by rw [hp1]))) ?_; rintro _ _ ⟨rfl, rfl⟩; refine tla ?_; refine nq ?_; refine sr ?_; refine tv (o_sliceA Tryz.underlying121 sz5 rfl bnd_none bnd_none oqz oqz) ?_; refine tl_env (d := 53) (v := .slice (some ⟨b10, 0, none⟩) 8 8) (rfl) ?_; refine tl_c rfl (o_call bd20 rfl (Take64_c (xs := stW p b s1) (hm := stW_len) (hb := stW_bytes hp3) (p := 0))) ?_; rintro _ _ ⟨rfl, rfl⟩; refine tlm ?_; refine tv (o_extract rfl rfl) ?_; refine tv (o_extract rfl rfl) ?_; refine tla ?_; refine tl_env (d := 12) (v := .int .u64 ((nm (stW p b s1) : Nat) : Int)) (by show Value.int .u64 ((nm (((stW p b s1).drop 0).take 8) : Nat) : Int) = _; rw [List.drop_zero, List.take_of_length_le (by rw [stW_len]; omega)]) ?_; refine tla ?_; refine nq ?_; refine tc_seq ?_
        refine sr ?_; refine tlm ?_; refine tlm ?_; refine tlm ?_
        have hrm1 : Room 1 s1 := fun l hl => by have := hp7 l hl; omega
        refine tl_c rfl (o_call bd66 rfl (lay_c (p := p - p % 8) (hat := by rw [hq1]; exact hpl) (hv := stW_nm hp3))) ?_; rintro _ _ ⟨rfl, rfl⟩; refine tla ?_; refine nq ?_; refine sr ?_; refine tlm ?_; refine tv (o_nei rfl rfl) ?_; refine nq ?_; refine tc_cond rfl (fun h => ?_) (fun h => ?_)
        · try simp only [lv1, lv2, lv3, lv4, lv5, lv6, Bool.not_true, Bool.not_false] at h
          refine sr ?_; refine tlm ?_; refine tla ?_; refine nq ?_; refine tc_ret ?_; refine q_then_r (q_block_r (q_then_r (q_block_r (q_then_r ?_))))
          simp only [decide_eq_true_eq, ne_eq] at h
          have e : storeF xs.length q xs s = (doneE (layS (p - p % 8) (nm (stW p b s1)) s1), doneS (layS (p - p % 8) (nm (stW p b s1)) s1)) := by rw [← hp0, storeF_step hb0, if_pos h]
          exact ⟨.int .i64 (doneE (layS (p - p % 8) (nm (stW p b s1)) s1)), F * Dev d (doneS (layS (p - p % 8) (nm (stW p b s1)) s1)), res1 rfl rfl, Dr.sat drqz, by rw [e], by rw [e]⟩
        · simp only [decide_eq_false_iff_not, ne_eq, Decidable.not_not] at h
          obtain ⟨hd1, hd2⟩ := doneE_ok h
          have hstep : storeF (b.drop (8 - p % 8)).length (p + min m1 (8 - p % 8)) (b.drop (8 - p % 8)) (doneS (layS (p - p % 8) (nm (stW p b s1)) s1)) = storeF xs.length q xs s := by rw [← hp0, storeF_step hb0, if_neg (by simpa using h), hp1]
          have hrm2 : Room (m1 - min m1 (8 - p % 8)) (doneS (layS (p - p % 8) (nm (stW p b s1)) s1)) := fun l hl => by
            rw [hd2] at hl
            have h1 : Room ((m1 - 1) + 1) s1 := fun l hl => by have := hp7 l hl; omega
            have := onLine_room (f := layL ((p - p % 8) % 64 / 8) (nm (stW p b s1))) (i := (p - p % 8) / 64) h1 (fun l => by simp [layL]) l hl
            omega
          have hrs2 : Rs F (cutAddr a1 c1 (min m1 (8 - p % 8)) 1) (bys (b.drop (8 - p % 8))) := by
            have h1 := rs_cut (l := min m1 (8 - p % 8)) (k := 1) (cap := c1) hp2 (by rw [bys_length]; omega)
            have h2 : (bys b).drop (min m1 (8 - p % 8) * 1) = bys (b.drop (8 - p % 8)) := by
              unfold bys
              rw [← List.map_drop, Nat.mul_one]; congr 1
              rcases Nat.le_total m1 (8 - p % 8) with h | h
              · rw [Nat.min_eq_left h, List.drop_of_length_le oqz, List.drop_of_length_le oqz]
              · rw [Nat.min_eq_right h]
            rw [h2] at h1; exact h1
          refine tc_skip ?_; refine q_then_n ?_; refine sr ?_; refine tlm ?_; refine tlm ?_; refine tv adqz ?_; refine tl_env (d := 66) (v := .int .i64 ((p + min m1 (8 - p % 8) : Nat) : Int)) (rfl) ?_; refine tla ?_; refine nq ?_; refine tc_reg ?_; refine tlm ?_; refine tlm ?_; refine tv (o_slice Tryz.underlying22 sz5 rfl (bnd_nat rfl) bnd_none (Nat.min_le_left _ _) hp4) ?_; refine tl_pre (Dr.sat (A' := F * Dev d (doneS (layS (p - p % 8) (nm (stW p b s1)) s1))) drqz) ?_; refine tla ?_; refine tl_nil ?_; refine q_block_n (q_then_n ?_); exact ⟨_, by omega, p + min m1 (8 - p % 8), m1 - min m1 (8 - p % 8), _, _, b.drop (8 - p % 8), _, hstep, by rw [List.length_drop]; omega, hrs2, fun x hx => hp3 x (List.mem_of_mem_drop hx), by omega, by rw [hd2, layS_len]; omega, by rw [hd1, layS_off]; exact hp6, hrm2, by omega, by rw [hd2, layS_len]; exact hp9, rfl, rfl, rfl, rfl, rfl⟩
      · try simp only [lv1, lv2, lv3, lv4, lv5, lv6, Bool.not_true, Bool.not_false] at h
        refine tc_exit ?_; refine q_then_e (q_then_e (q_block_x (q_then_n ?_))); refine sr ?_; refine tla ?_; refine nq ?_; refine tc_ret ?_
        obtain rfl : b = [] := by cases b with
          | nil => rfl
          | cons _ _ => simp at hp1; omega
        have e : storeF xs.length q xs s = (0, s1) := by rw [← hp0, storeF_nil]
        exact ⟨.int .i64 0, F * Dev d s1, res1 rfl rfl, fun _ _ h => h, by rw [e], by rw [e]⟩
theorem Store_c {A R : SP} {C : SP → SP} {d : Nat} {s : DevS} (hc : Ct A (Dev d s) R C := by repeat (first | with_reducible exact ct_here | apply ct_left)) {a : Option Addr} {c m : Nat} {p : Int} {xs : List Nat} (hr : Rs R a (bys xs) := by repeat (first | assumption | with_reducible exact rs_sl | with_reducible exact rs_pt0 | exact rs_none | apply Rs.left)) (hm : xs.length = m := by first | assumption | rfl) (hmc : m ≤ c := by first | assumption | omega) (hb : ∀ x ∈ xs, x < 256 := by assumption) (hml : m ≤ 140737488351232 := by omega) (hp : -9223372036854775808 ≤ p ∧ p ≤ 9223372036854775807 := by omega) (hroom : rdy s.ls.length s.off p m = 0 → Room m s := by assumption) :
    Fn Tryz.prog 24 #[.pointer (some ⟨d, 0, none⟩), .int .i64 p, .slice a m c] A (fun r B => ∃ e s2, sto p xs s = (e, s2) ∧ r = .int .i64 e ∧ B = C (Dev d s2)) := by
  obtain ⟨rfl, hC⟩ := hc
  exact (StoreW_f R hr hm hmc hb hml hp hroom).mono fun _ _ h => ⟨(sto p xs s).1, (sto p xs s).2, rfl, h.1, by rw [hC]; exact h.2⟩
end Go.Vl

namespace Go.Vl
open Go Go.Proofs
theorem CloneIN_f {A : SP} {n c : Nat} :
    Fn Tryz.prog 87 #[.slice none n c] (A) (fun r B => r = .slice none 0 0 ∧ A = B) := by
  refine fn_enterW (args := [.slice none n c]) Tryz.func87 rfl Tryz.ntmps87 (by simp) ?_; refine sr ?_; refine tla ?_; refine nq ?_; refine tc_seq ?_; refine sr ?_; refine tlm ?_; refine tv (o_eqs Tryz.underlying48 rfl rfl) ?_; refine nq ?_; refine tc_cond rfl (fun h => ?_) (fun h => ?_)
  · try simp only [lv1, lv2, lv3, lv4, lv5, lv6, Bool.not_true, Bool.not_false] at h
    refine sr ?_; refine tla ?_; refine nq ?_; refine tc_ret ?_; refine q_then_r ?_; exact ⟨_, _, res1 rfl rfl, fun _ _ h => h, rfl, rfl⟩
  · (exfalso; first | (revert h; simp; done) | (simp at h; done) | (revert h; simp; omega) | (simp at h; omega) | omega)
theorem CloneI_c {A : SP} {a : Option Addr} {n c : Nat} {xs : List Value} (hr : Rs A a xs := by repeat (first | assumption | with_reducible exact rs_sl | with_reducible exact rs_pt0 | exact rs_none | apply Rs.left)) (hl : xs.length = n * 1 := by first | assumption | (simp only [ints_length]; omega)) (ho : xs.all oneC = true := by first | exact bys_all _ | exact ints_all _ | exact wds_all _ | exact bos_all _ | rfl) (hs : n * 8 ≤ 140737488355328 := by omega) :
    Fn Tryz.prog 87 #[.slice a n c] A (fun r B => ∃ a' c', r = .slice a' n c' ∧ n ≤ c' ∧ B = A * Sl 1 (.slice a' n c') n xs) := by
  refine fn_rs hr fun hr => ?_
  cases a with
  | none =>
    have hx : xs = [] := by
      rcases hr with h | ⟨b, o, e, _⟩
      · exact h
      · cases e
    subst hx
    have hn : n = 0 := by simp at hl; omega
    subst hn
    intro g w hs
    refine (CloneIN_f (n := 0) (c := c) g w hs).mono ?_; rintro e w' ⟨v, B, rfl, ⟨rfl, rfl⟩, hB⟩; exact ⟨_, _, rfl, ⟨none, 0, rfl, Nat.le_refl _, rfl⟩, sl_nil hB⟩
  | some p => exact fn_sl (CloneI_f A n c xs p hr hl ho hs)
theorem low_c {A : SP} {a : Option Addr} {c m : Nat} {xs : List Int} (hr : Rs A a (ints xs) := by repeat (first | assumption | with_reducible exact rs_sl | with_reducible exact rs_pt0 | exact rs_none | apply Rs.left)) (hm : xs.length = m := by first | assumption | rfl) (hl : m ≤ 1099511627776000 := by omega) : Fn Tryz.prog 83 #[.slice a m c] A (fun r B => r = .bool (lowB xs) ∧ A = B) := by
  subst hm; exact fn_rs hr fun hr => low_f A a c xs hr hl
/-- Arms, to be read. -/
structure RdA (A : SP) (a : Option Addr) (kvs : List Value) (ars : List (Int × List Int)) : Prop where
  rd : Rs A a (acs kvs ars)
  len : kvs.length = ars.length
  keep : ∀ i (h : i < ars.length), ∃ b c, kvs[i]? = some (.slice b ars[i].2.length c) ∧ ars[i].2.length ≤ c ∧ Rs A b (ints ars[i].2)
theorem RdA.left {A X : SP} {a : Option Addr} {kvs : List Value} {ars : List (Int × List Int)} (h : RdA A a kvs ars) : RdA (A * X) a kvs ars :=
  ⟨h.rd.left, h.len, fun i hi => by obtain ⟨b, c, e, hc, hr⟩ := h.keep i hi; exact ⟨b, c, e, hc, hr.left⟩⟩
theorem acs_length : ∀ {kvs : List Value} {ars : List (Int × List Int)}, kvs.length = ars.length → (acs kvs ars).length = ars.length * 2
  | [], [], _ => rfl
  | v :: vs, a :: ar, h => by simp only [acs, List.length_cons] at *; rw [acs_length oqz]; omega
theorem acs_at : ∀ {kvs : List Value} {ars : List (Int × List Int)} {i : Nat} (h : kvs.length = ars.length) (hi : i < ars.length), ((acs kvs ars).drop (i * 2)).take 2 = [.int .i64 ars[i].1, kvs[i]'oqz]
  | [], [], _, _, hi => by simp at hi
  | v :: vs, a :: ar, 0, _, _ => rfl
  | v :: vs, a :: ar, i + 1, h, hi => by
    rw [show (i + 1) * 2 = i * 2 + 1 + 1 by omega]
    show ((acs vs ar).drop (i * 2)).take 2 = _
    rw [acs_at (by simpa using h) (by simpa using hi)]; rfl
theorem acs_snoc : ∀ {kvs : List Value} {ars : List (Int × List Int)} {v : Value} {x : Int × List Int} (_ : kvs.length = ars.length), acs (kvs ++ [v]) (ars ++ [x]) = acs kvs ars ++ [.int .i64 x.1, v]
  | [], [], _, _, _ => rfl
  | u :: vs, y :: ar, v, x, h => by
    show _ :: u :: acs (vs ++ [v]) (ar ++ [x]) = _
    rw [acs_snoc (by simpa using h)]; rfl
theorem keepsR_snoc : ∀ {kvs : List Value} {ars : List (Int × List Int)} {v : Value} {x : Int × List Int} (_ : kvs.length = ars.length), KeepsR (kvs ++ [v]) (ars ++ [x]) = KeepsR kvs ars * SlR 1 v x.2.length (ints x.2)
  | [], [], _, _, _ => rfl
  | u :: vs, y :: ar, v, x, h => by
    show KeepsR (vs ++ [v]) (ar ++ [x]) * SlR 1 u y.2.length (ints y.2) = _
    rw [keepsR_snoc (by simpa using h)]
    show _ = KeepsR vs ar * SlR 1 u y.2.length (ints y.2) * SlR 1 v x.2.length (ints x.2)
    rw [star_swap]
theorem sl_share {k n : Nat} {v : Value} {xs : List Value} {R : SP} {g : Gh} {w : World} (hs : sat g w (R * Sl k v n xs)) : sat g w (R * SlR k v n xs) := by
  obtain ⟨hl, ⟨e1, e2, h⟩ | ⟨b, off, cap, l, E, e1, h1, h2, h3, h⟩⟩ := sl_iff.1 hs
  · obtain ⟨x, ha, hx⟩ := h.hp
    refine ⟨h.os, h.tape, h.out, x, ⟨x, fun _ => none, fun _ => .inr (.inl rfl), ?_, ha, hl, .inl ⟨e1, e2, rfl⟩⟩, hx⟩
    funext b; simp [Hp.un]
  · have h' := h.share
    obtain ⟨_, ⟨x, y, hd, rfl, ha, hb⟩, hx⟩ := h'.hp
    exact ⟨h'.os, h'.tape, h'.out, _, ⟨x, y, hd, rfl, ha, hl, .inr ⟨b, off, cap, l, E, e1, h1, h2, h3, hb⟩⟩, hx⟩
theorem devC_open {F : SP} {d bl : Nat} {svs kvs : List Value} {av : Value} {s : DevS} : F * DevC d bl svs av kvs s = F * KeepsR kvs s.arms * LinesR svs s.ls * pt bl (cl (lcs svs s.ls) 71) * pt d (cl (dcs bl s.ls.length s av) 64) * Sl 2 av s.arms.length (acs kvs s.arms) := by
  unfold DevC ArmsR; ac_rfl
theorem arm_back {F J : SP} {d bl : Nat} {svs kvs : List Value} {v av : Value} {x : Int × List Int} {s : DevS} (hw : WfD { s with arms := s.arms ++ [x] }) (hsv : svs.length = s.ls.length) (hkv : kvs.length = s.arms.length) {g : Gh} {w : World}
    (hs : sat g w (F * KeepsR kvs s.arms * LinesR svs s.ls * pt bl (cl (lcs svs s.ls) 71) * pt d (cl (dcs bl s.ls.length s av) 64) * Sl 1 v x.2.length (ints x.2) * Sl 2 av (s.arms.length + 1) (acs kvs s.arms ++ [.int .i64 x.1, v]) * J)) : sat g w (F * Dev d { s with arms := s.arms ++ [x] }) := by
  have h1 := hs.left
  rw [star_swap] at h1
  have h2 := sl_share h1
  refine dev_back (bl := bl) (svs := svs) (av := av) (kvs := kvs ++ [v]) hw hsv (by simp [hkv]) g w ?_
  rw [devC_open]
  simp only [acs_snoc hkv, keepsR_snoc hkv, List.length_append, List.length_singleton]
  exact h2.perm (by show _ = F * (KeepsR kvs s.arms * SlR 1 v x.2.length (ints x.2)) * LinesR svs s.ls * pt bl (cl (lcs svs s.ls) 71) * pt d (cl (dcs bl s.ls.length s av) 64) * Sl 2 av (s.arms.length + 1) (acs kvs s.arms ++ [.int .i64 x.1, v]); ac_rfl)
def badA (x : Int × List Int) : Bool := decide (x.1 < 1) || lowB x.2
/-- What Arm answers, and the device behind it. -/
def armS (ars : List (Int × List Int)) (s : DevS) : Int × DevS := if s.off then (5, s) else if ars.any badA then (2, s) else if 64 < ars.length + s.arms.length then (4, s) else (0, { s with arms := s.arms ++ ars })
theorem low_nn {l : List Int} (h : lowB l = false) : ∀ k ∈ l, 0 ≤ k := fun k hk => by
  unfold lowB at h
  rw [List.any_eq_false] at h
  have := h k hk
  simpa using this
theorem arm_wf {s : DevS} {ars : List (Int × List Int)} (hw : WfD s) (h : s.arms.length + ars.length ≤ 64) (hb : ars.any badA = false) (hk : ∀ x ∈ ars, x.1 ≤ 9223372036854775807 ∧ x.2.length ≤ 17592186044416 ∧ ∀ k ∈ x.2, k ≤ 9223372036854775807) : WfD { s with arms := s.arms ++ ars } := by
  rw [List.any_eq_false] at hb
  refine ⟨hw.pos, hw.top, hw.line, by simp; omega, fun x hx => ?_, fun x hx => ?_⟩
  · rcases List.mem_append.1 hx with h | h
    · exact hw.after x h
    · have := hb x h; simp [badA] at this
      exact ⟨by omega, (hk x h).1⟩
  · rcases List.mem_append.1 hx with h | h
    · exact hw.keeps x h
    · have := hb x h; simp [badA] at this
      exact ⟨(hk x h).2.1, fun k hm => ⟨low_nn this.2 k hm, (hk x h).2.2 k hm⟩⟩
theorem rdy00_t {n : Nat} {off : Bool} (h : rdy n off 0 0 ≠ 0) : off = true := by
  cases off with
  | true => rfl
  | false => rw [rdy00] at h; simp at h
theorem rdy00_f {n : Nat} {off : Bool} (h : rdy n off 0 0 = 0) : off = false := by
  cases off with
  | false => rfl
  | true => rw [rdy00] at h; simp at h
theorem any_take {α : Type} {p : α → Bool} {l : List α} {i : Nat} (h : (l.take i).any p = false) (hi : i < l.length) (hp : p l[i] = false) : (l.take (i + 1)).any p = false := by
  rw [List.take_succ_eq_append_getElem hi, List.any_append, h]; simp [hp]
theorem any_at {α : Type} {p : α → Bool} {l : List α} {i : Nat} (hi : i < l.length) (hp : p l[i] = true) : l.any p = true := by
  rw [List.any_eq_true]; exact ⟨l[i], List.getElem_mem hi, hp⟩
theorem ArmW_f (F : SP) {a : Option Addr} {c m d : Nat} {s : DevS} {kvs : List Value} {ars : List (Int × List Int)} (hr : RdA F a kvs ars) (hm : ars.length = m) (hl : m ≤ 17592186044416) (hk : ∀ x ∈ ars, (-9223372036854775808 ≤ x.1 ∧ x.1 ≤ 9223372036854775807) ∧ x.2.length ≤ 17592186044416 ∧ ∀ k ∈ x.2, k ≤ 9223372036854775807) :
    Fn Tryz.prog 47 #[.pointer (some ⟨d, 0, none⟩), .slice a m c] (F * Dev d s) (fun r B => r = .int .i64 (armS ars s).1 ∧ B = F * Dev d (armS ars s).2) := by
  refine fn_enterW (args := [.pointer (some ⟨d, 0, none⟩), .slice a m c]) Tryz.func47 rfl Tryz.ntmps47 (by simp) ?_; refine tc_dev fun hw _ _ _ _ _ _ => ?_
  have hpos := hw.pos
  have htop := hw.top
  have ha64 := hw.arms
  refine tc_pre (dev_back hw ‹_› ‹_›) ?_
  have hrr : Rs F a (acs kvs ars) := hr.rd
  have hrl := acs_length hr.len
  refine sr ?_; refine tla ?_; refine nq ?_; refine tc_seq ?_; refine sr ?_; refine tlm ?_; refine tl_c rfl (o_call bd64 rfl (ready_c)) ?_; rintro _ _ ⟨rfl, rfl⟩; refine tla ?_; refine nq ?_; refine sr ?_; refine tlm ?_; refine tv (o_nei rfl rfl) ?_; refine nq ?_; refine tc_cond rfl (fun h => ?_) (fun h => ?_)
  · have hoff := rdy00_t (by simpa using h)
    have hs : armS ars s = (5, s) := by unfold armS; rw [if_pos hoff]
    have hv : rdy s.ls.length s.off 0 0 = 5 := by rw [rdy00, if_pos hoff]
    refine sr ?_; refine tlm ?_; refine tla ?_; refine nq ?_; refine tc_ret ?_; refine q_then_r ?_; exact ⟨.int .i64 (rdy s.ls.length s.off 0 0), F * Dev d s, res1 rfl rfl, fun _ _ h => h, by rw [hs, hv], by rw [hs]⟩
  · have hoff := rdy00_f (by simpa using h)
    refine tc_skip ?_; refine q_then_n ?_; refine tc_seq ?_; refine sr ?_; refine tlm ?_; refine tv (o_len Tryz.underlying53 rfl) ?_; refine tlm ?_; refine nq ?_; refine tc_block ?_; refine tc_loop (fun kk ρ BB => ∃ (i : Nat), (i ≤ m) ∧ ((ars.take i).any badA = false) ∧ kk = m - i ∧ ρ 17 = .int .i64 (i : Nat) ∧ ρ 0 = .pointer (some ⟨d, 0, none⟩) ∧ ρ 1 = .slice a m c ∧ ρ 15 = .slice a m c ∧ ρ 16 = .int .i64 (m : Nat) ∧ BB = F * Dev d s) (m := m - (0)) ?_ ?_
    · exact ⟨0, by omega, rfl, rfl, rfl, rfl, rfl, rfl, rfl, rfl⟩
    · intro k ρ B hI
      obtain ⟨i, hp0, hp1, hkk1, hE17, hE0, hE1, hE15, hE16, rfl⟩ := hI
      refine tc_env (d := 17) hE17 ?_; refine tc_env (d := 0) hE0 ?_; refine tc_env (d := 1) hE1 ?_; refine tc_env (d := 15) hE15 ?_; refine tc_env (d := 16) hE16 ?_
      clear hE17 hE0 hE1 hE15 hE16
      refine sr ?_; refine tv (o_lss rfl rfl) ?_; refine nq ?_; refine tc_seq ?_; refine tc_cond rfl (fun h => ?_) (fun h => ?_)
      · have hi : i < ars.length := by simp at h; omega
        obtain ⟨kb, kc, hkv, hkc, hkr⟩ := hr.keep i hi
        have hka := acs_at hr.len hi
        have hkv2 : kvs[i]'(by rw [hr.len]; exact hi) = .slice kb ars[i].2.length kc := by rw [List.getElem?_eq_getElem (by rw [hr.len]; exact hi)] at hkv; exact Option.some.inj hkv
        rw [hkv2] at hka
        have hke := hk _ (List.getElem_mem hi)
        refine tc_skip ?_; refine q_then_n ?_; refine tc_seq ?_; refine tc_block ?_; refine sr ?_; refine tv (o_ixP Tryz.underlying53 sz107 rfl rfl sq1z sq0z) ?_; refine tv (o_ldPN (vs := [.int .i64 ars[i].1, .slice kb ars[i].2.length kc]) a107 sz107 rfl sq2z hka rfl (by decide)) ?_; refine tl_x rfl (o_alloc z107 rfl) ?_; rintro _ _ ⟨b7, rfl, rfl⟩; refine tl_u rfl (o_stUN rfl upd_here sz107 rfl rfl rfl (by simp) rfl) ?_; refine nq ?_; refine sr ?_; refine tv (o_fieldAddr (o := 0) Tryz.underlying107 rfl rfl sz3 rfl) ?_; refine tv (by first | exact o_load p3 rfl hsqz rfl | exact o_loadC p3 rfl (by assumption)) ?_; refine tv (o_lss rfl rfl) ?_
        refine tlm ?_; refine tl_bool (d := 24) rfl (fun h => ?_) (fun h => ?_)
        · try simp only [lv1, lv2, lv3, lv4, lv5, lv6, Bool.not_true, Bool.not_false] at h
          refine tk ?_; refine tk ?_; refine tk ?_; refine tv (o_pick_t rfl (by conv => lhs; whnf)) ?_; refine nq ?_; refine tc_cond_t rfl ?_; refine sr ?_; refine tla ?_; refine nq ?_; refine tc_ret ?_; refine q_block_r (q_then_r (q_then_r (q_block_r (q_then_r ?_))))
          have hs2 : armS ars s = (2, s) := by unfold armS; rw [if_neg (by rw [hoff]; decide), if_pos (any_at hi (by unfold badA; simp at h ⊢; first | exact h | exact .inl h | exact .inr h | omega))]
          exact ⟨.int .i64 2, F * Dev d s, res1 rfl rfl, Dr.sat drqz, by rw [hs2], by rw [hs2]⟩
        · try simp only [lv1, lv2, lv3, lv4, lv5, lv6, Bool.not_true, Bool.not_false] at h
          refine tv (o_fieldAddr (o := 1) Tryz.underlying107 rfl rfl sz48 rfl) ?_; refine tv (by first | exact o_load p48 rfl hsqz rfl | exact o_loadC p48 rfl (by assumption)) ?_; refine tl_c rfl (o_call bd83 rfl (low_c (xs := ars[i].2))) ?_; rintro _ _ ⟨rfl, rfl⟩; refine tv (o_pick_f rfl (by conv => lhs; whnf)) ?_; refine nq ?_; refine tc_cond rfl (fun h => ?_) (fun h => ?_)
          · try simp only [lv1, lv2, lv3, lv4, lv5, lv6, Bool.not_true, Bool.not_false] at h
            refine sr ?_; refine tla ?_; refine nq ?_; refine tc_ret ?_; refine q_block_r (q_then_r (q_then_r (q_block_r (q_then_r ?_))))
            have hs2 : armS ars s = (2, s) := by unfold armS; rw [if_neg (by rw [hoff]; decide), if_pos (any_at hi (by unfold badA; simp at h ⊢; first | exact h | exact .inl h | exact .inr h | omega))]
            exact ⟨.int .i64 2, F * Dev d s, res1 rfl rfl, Dr.sat drqz, by rw [hs2], by rw [hs2]⟩
          · have hbad : badA ars[i] = false := by unfold badA; rw [Bool.or_eq_false_iff]; exact ⟨by simp; omega, h⟩
            refine tc_skip ?_; refine q_block_n (q_then_n ?_); refine tc_pre (Dr.sat (A' := F * Dev d s) drqz) ?_; refine tc_reg ?_; refine tv adqz ?_; refine tlm ?_; refine nq ?_; exact ⟨_, by omega, i + 1, by omega, any_take hp1 hi hbad, rfl, rfl, rfl, rfl, rfl, rfl, rfl⟩
      · try simp only [lv1, lv2, lv3, lv4, lv5, lv6, Bool.not_true, Bool.not_false] at h
        refine tc_exit ?_; refine q_then_e (q_then_e (q_block_x (q_then_n ?_))); refine tc_seq ?_; refine sr ?_; refine tlm ?_; refine tv (o_len Tryz.underlying53 rfl) ?_; refine tlm ?_
        obtain rfl : m = i := by omega
        have hnb : ars.any badA = false := by rwa [List.take_of_length_le oqz] at hp1
        refine tl_dev fun hw1 bl svs av kvs1 hsv hkv => ?_; refine tl_have (fun _ _ h => devC_arms h) fun ⟨aa, ca, hav, _⟩ => ?_
        subst hav
        refine tv (o_nilCheck rfl) ?_; refine tv (o_fieldAddr (o := 2) Tryz.underlying64 rfl rfl sz53 rfl) ?_; refine tv (o_load p53 rfl devC_d rfl) ?_; refine tv (o_len Tryz.underlying53 rfl) ?_; refine tv adqz ?_; refine tv (o_gtr rfl rfl) ?_; refine tl_pre (dev_back hw1 hsv hkv) ?_; refine nq ?_; refine tc_cond rfl (fun h => ?_) (fun h => ?_)
        · try simp only [lv1, lv2, lv3, lv4, lv5, lv6, Bool.not_true, Bool.not_false] at h
          refine sr ?_; refine tla ?_; refine nq ?_; refine tc_ret ?_; refine q_then_r ?_
          have hs2 : armS ars s = (4, s) := by unfold armS; rw [if_neg (by rw [hoff]; decide), if_neg (by rw [hnb]; decide), if_pos oqz]
          exact ⟨.int .i64 4, F * Dev d s, res1 rfl rfl, Dr.sat drqz, by rw [hs2], by rw [hs2]⟩
        · try simp only [lv1, lv2, lv3, lv4, lv5, lv6, Bool.not_true, Bool.not_false] at h
          refine tc_skip ?_; refine q_then_n ?_; refine tc_seq ?_; refine sr ?_
          have hfit : ars.length + s.arms.length ≤ 64 := by omega
          refine tlm ?_; refine tv (o_len Tryz.underlying53 rfl) ?_; refine tlm ?_; refine nq ?_; refine tc_block ?_; refine tc_loop (fun kk ρ BB => ∃ (i : Nat), (i ≤ m) ∧ kk = m - i ∧ ρ 41 = .int .i64 (i : Nat) ∧ ρ 0 = .pointer (some ⟨d, 0, none⟩) ∧ ρ 39 = .slice a m c ∧ ρ 40 = .int .i64 (m : Nat) ∧ BB = F * Dev d { s with arms := s.arms ++ ars.take i }) (m := m - (0)) ?_ ?_
          · exact ⟨0, by omega, rfl, rfl, rfl, rfl, rfl, by rw [List.take_zero, List.append_nil]⟩
          · intro k ρ B hI
            obtain ⟨i, hp0, hkk2, hE41, hE0, hE39, hE40, rfl⟩ := hI
            refine tc_env (d := 41) hE41 ?_; refine tc_env (d := 0) hE0 ?_; refine tc_env (d := 39) hE39 ?_; refine tc_env (d := 40) hE40 ?_
            clear hE41 hE0 hE39 hE40
            refine sr ?_; refine tv (o_lss rfl rfl) ?_; refine nq ?_; refine tc_seq ?_; refine tc_cond rfl (fun h => ?_) (fun h => ?_)
            · have hi : i < ars.length := by simp at h; omega
              obtain ⟨kb, kc, hkv, hkc, hkr⟩ := hr.keep i hi
              have hka := acs_at hr.len hi
              have hkv2 : kvs[i]'(by rw [hr.len]; exact hi) = .slice kb ars[i].2.length kc := by rw [List.getElem?_eq_getElem (by rw [hr.len]; exact hi)] at hkv; exact Option.some.inj hkv
              rw [hkv2] at hka
              have hke := hk _ (List.getElem_mem hi)
              refine tc_skip ?_; refine q_then_n ?_; refine tc_seq ?_; refine tc_block ?_; refine sr ?_; refine tv (o_ixP Tryz.underlying53 sz107 rfl rfl sq1z sq0z) ?_; refine tv (o_ldPN (vs := [.int .i64 ars[i].1, .slice kb ars[i].2.length kc]) a107 sz107 rfl sq2z hka rfl (by decide)) ?_; refine tl_x rfl (o_alloc z107 rfl) ?_; rintro _ _ ⟨b9, rfl, rfl⟩; refine tl_u rfl (o_stUN (l' := [.int .i64 ars[i].1, .slice kb ars[i].2.length kc]) rfl upd_here sz107 rfl rfl rfl (by simp) rfl) ?_; refine nq ?_
              rw [star_swap]
              refine tc_dev fun hw2 bl svs av kvs2 hsv hkv3 => ?_; refine tc_have (fun _ _ h => devC_arms h) fun ⟨aa, ca, hav, _⟩ => ?_
              subst hav
              refine tc_eq devC_open ?_
              rw [star_swap, star_swap _ _ (pt d _), star_swap _ _ (pt bl _)]
              refine tc_regh (S := F * pt b9 (cl [.int .i64 ars[i].1, .slice kb ars[i].2.length kc] 107) * KeepsR kvs2 (s.arms ++ ars.take i)) mo drqz ?_
              show TH _ _ _ _ _ 16 #[ff,ff,ff,ff,ff,ff,ff,ff,ff,ff,ff,ff,ff,ff,ff,ff] _ _
              refine th_take (i := 0) (listed' := #[tt,ff,ff,ff,ff,ff,ff,ff,ff,ff,ff,ff,ff,ff,ff,ff]) rfl kqz kqz kqz rfl rfl (o_move (by conv => lhs; whnf)) ?_; refine th_take (i := 1) (listed' := #[tt,tt,ff,ff,ff,ff,ff,ff,ff,ff,ff,ff,ff,ff,ff,ff]) rfl kqz kqz kqz rfl rfl (o_move (by conv => lhs; whnf)) ?_; refine th_take (i := 2) (listed' := #[tt,tt,tt,ff,ff,ff,ff,ff,ff,ff,ff,ff,ff,ff,ff,ff]) rfl kqz kqz kqz rfl rfl (o_nilCheck rfl) ?_; refine th_take (i := 3) (listed' := #[tt,tt,tt,tt,ff,ff,ff,ff,ff,ff,ff,ff,ff,ff,ff,ff]) rfl kqz kqz kqz rfl rfl (o_fieldAddr (o := 2) Tryz.underlying64 rfl rfl sz53 rfl) ?_; refine th_take (i := 5) (listed' := #[tt,tt,tt,tt,ff,tt,ff,ff,ff,ff,ff,ff,ff,ff,ff,ff]) rfl kqz kqz kqz rfl rfl (o_fieldAddr (o := 0) Tryz.underlying107 rfl rfl sz3 rfl) ?_; refine th_take (i := 6) (listed' := #[tt,tt,tt,tt,ff,tt,tt,ff,ff,ff,ff,ff,ff,ff,ff,ff]) rfl kqz kqz kqz rfl rfl (by first | exact o_load p3 rfl hsqz rfl | exact o_loadC p3 rfl (by assumption)) ?_; refine th_take (i := 7) (listed' := #[tt,tt,tt,tt,ff,tt,tt,tt,ff,ff,ff,ff,ff,ff,ff,ff]) rfl kqz kqz kqz rfl rfl (o_fieldAddr (o := 1) Tryz.underlying107 rfl rfl sz48 rfl) ?_
              refine th_take (i := 8) (listed' := #[tt,tt,tt,tt,ff,tt,tt,tt,tt,ff,ff,ff,ff,ff,ff,ff]) rfl kqz kqz kqz rfl rfl (by first | exact o_load p48 rfl hsqz rfl | exact o_loadC p48 rfl (by assumption)) ?_; refine th_two (i := 4) (j := 9) kqz ?_ ?_
              · skip
                refine oh_v (i := 4) (listed' := #[tt,tt,tt,tt,tt,tt,tt,tt,tt,ff,ff,ff,ff,ff,ff,ff]) rfl rfl rfl (o_load p53 rfl hsqz rfl) ?_; refine th_one (i := 9) kqz ?_; refine oh_c (i := 9) (listed' := #[tt,tt,tt,tt,tt,tt,tt,tt,tt,tt,ff,ff,ff,ff,ff,ff]) rfl rfl rfl (o_call bd87 rfl (CloneI_c (xs := ints ars[i].2))) ?_; rintro _ _ ⟨a54, c54, rfl, hc54, rfl⟩; refine ⟨by repeat (first | with_reducible exact dr_refl | apply dr_keep | apply dr_drop), ?_⟩; refine th_take (i := 10) (listed' := #[tt,tt,tt,tt,tt,tt,tt,tt,tt,tt,tt,ff,ff,ff,ff,ff]) rfl kqz kqz kqz rfl rfl (o_bS (l := [_, _]) (pv_cons (by conv => lhs; whnf) (pv_cons (by conv => lhs; whnf) pv_nil)) Tryz.underlying107 z107 (pl107 Tryz.underlying107) rfl) ?_; refine th_one (i := 11) kqz ?_; refine oh_x (i := 11) (listed' := #[tt,tt,tt,tt,tt,tt,tt,tt,tt,tt,tt,tt,ff,ff,ff,ff]) rfl rfl rfl (o_buildSliceK Tryz.underlying53 sz107 z107 rfl (by first | rfl | simp) (by decide)) ?_; rintro _ _ ⟨b56, rfl, rfl⟩; refine ⟨by repeat (first | with_reducible exact dr_refl | apply dr_keep | apply dr_drop), ?_⟩; refine th_one (i := 12) kqz ?_; refine oh_x (i := 12) (listed' := #[tt,tt,tt,tt,tt,tt,tt,tt,tt,tt,tt,tt,tt,ff,ff,ff]) rfl rfl rfl (o_apB Tryz.underlying53 Tryz.underlying53 sz107 by107 z107 rfl (by decide) (by decide) rfl rfl rfl ctqz rfl (by first | exact bys_all _ | exact ints_all _ | exact wds_all _ | exact bos_all _ | rfl) sq1z (by first | exact bys_sn _ _ | exact ints_sn _ _ | exact wds_sn _ _ | exact bos_sn _ _ | exact (bys_append _ _).symm | rfl)) ?_
                rintro _ _ ⟨a57, c57, rfl, hc57, rfl⟩; refine ⟨by repeat (first | with_reducible exact dr_refl | apply dr_keep | apply dr_drop), ?_⟩; refine th_take (i := 13) (listed' := #[tt,tt,tt,tt,tt,tt,tt,tt,tt,tt,tt,tt,tt,tt,ff,ff]) rfl kqz kqz kqz rfl rfl (o_nilCheck rfl) ?_; refine th_take (i := 14) (listed' := #[tt,tt,tt,tt,tt,tt,tt,tt,tt,tt,tt,tt,tt,tt,tt,ff]) rfl kqz kqz kqz rfl rfl (o_fieldAddr (o := 2) Tryz.underlying64 rfl rfl sz53 rfl) ?_; refine th_one (i := 15) kqz ?_; refine oh_u (i := 15) (listed' := #[tt,tt,tt,tt,tt,tt,tt,tt,tt,tt,tt,tt,tt,tt,tt,tt]) rfl rfl rfl (o_stU (l' := dcs bl s.ls.length { s with arms := s.arms ++ ars.take i } (.slice a57 ((s.arms ++ ars.take i).length + 1) c57)) rfl upqz sz53 rfl rfl (by show 2 < 5; decide) rfl) drqz ?_; refine th_done kqz ?_; refine q_block_n (q_then_n ?_)
                have hw3 : WfD { { s with arms := s.arms ++ ars.take i } with arms := { s with arms := s.arms ++ ars.take i }.arms ++ [ars[i]] } := by
                  show WfD { s with arms := (s.arms ++ ars.take i) ++ [ars[i]] }
                  rw [List.append_assoc, ← List.take_succ_eq_append_getElem hi]
                  exact arm_wf hw (by rw [List.length_take]; omega) (by rw [List.any_eq_false] at hnb ⊢; exact fun x hx => hnb x (List.mem_of_mem_take hx)) (fun x hx => by have := hk x (List.mem_of_mem_take hx); exact ⟨this.1.2, this.2⟩)
                refine tc_pre (A' := F * Dev d { { s with arms := s.arms ++ ars.take i } with arms := { s with arms := s.arms ++ ars.take i }.arms ++ [ars[i]] }) (fun _ _ h => arm_back (F := F) (d := d) (bl := bl) (J := pt b9 (cl [.int .i64 ars[i].1, .slice kb ars[i].2.length kc] 107)) (v := .slice a54 ars[i].2.length c54) (av := .slice a57 ((s.arms ++ ars.take i).length + 1) c57) hw3 hsv hkv3 (h.perm (by first | rfl | ac_rfl))) ?_; refine tc_reg ?_; refine tv adqz ?_; refine tlm ?_; refine nq ?_; exact ⟨_, by omega, i + 1, by omega, rfl, rfl, rfl, rfl, rfl, by rw [List.take_succ_eq_append_getElem hi, ← List.append_assoc]⟩
              · skip
                refine oh_c (i := 9) (listed' := #[tt,tt,tt,tt,ff,tt,tt,tt,tt,tt,ff,ff,ff,ff,ff,ff]) rfl rfl rfl (o_call bd87 rfl (CloneI_c (xs := ints ars[i].2))) ?_; rintro _ _ ⟨a54, c54, rfl, hc54, rfl⟩; refine ⟨by repeat (first | with_reducible exact dr_refl | apply dr_keep | apply dr_drop), ?_⟩; refine th_take (i := 10) (listed' := #[tt,tt,tt,tt,ff,tt,tt,tt,tt,tt,tt,ff,ff,ff,ff,ff]) rfl kqz kqz kqz rfl rfl (o_bS (l := [_, _]) (pv_cons (by conv => lhs; whnf) (pv_cons (by conv => lhs; whnf) pv_nil)) Tryz.underlying107 z107 (pl107 Tryz.underlying107) rfl) ?_; refine th_two (i := 4) (j := 11) kqz ?_ ?_
                · skip
                  refine oh_v (i := 4) (listed' := #[tt,tt,tt,tt,tt,tt,tt,tt,tt,tt,tt,ff,ff,ff,ff,ff]) rfl rfl rfl (o_load p53 rfl hsqz rfl) ?_; refine th_one (i := 11) kqz ?_; refine oh_x (i := 11) (listed' := #[tt,tt,tt,tt,tt,tt,tt,tt,tt,tt,tt,tt,ff,ff,ff,ff]) rfl rfl rfl (o_buildSliceK Tryz.underlying53 sz107 z107 rfl (by first | rfl | simp) (by decide)) ?_; rintro _ _ ⟨b56, rfl, rfl⟩; refine ⟨by repeat (first | with_reducible exact dr_refl | apply dr_keep | apply dr_drop), ?_⟩; refine th_one (i := 12) kqz ?_; refine oh_x (i := 12) (listed' := #[tt,tt,tt,tt,tt,tt,tt,tt,tt,tt,tt,tt,tt,ff,ff,ff]) rfl rfl rfl (o_apB Tryz.underlying53 Tryz.underlying53 sz107 by107 z107 rfl (by decide) (by decide) rfl rfl rfl ctqz rfl (by first | exact bys_all _ | exact ints_all _ | exact wds_all _ | exact bos_all _ | rfl) sq1z (by first | exact bys_sn _ _ | exact ints_sn _ _ | exact wds_sn _ _ | exact bos_sn _ _ | exact (bys_append _ _).symm | rfl)) ?_; rintro _ _ ⟨a57, c57, rfl, hc57, rfl⟩; refine ⟨by repeat (first | with_reducible exact dr_refl | apply dr_keep | apply dr_drop), ?_⟩
                  refine th_take (i := 13) (listed' := #[tt,tt,tt,tt,tt,tt,tt,tt,tt,tt,tt,tt,tt,tt,ff,ff]) rfl kqz kqz kqz rfl rfl (o_nilCheck rfl) ?_; refine th_take (i := 14) (listed' := #[tt,tt,tt,tt,tt,tt,tt,tt,tt,tt,tt,tt,tt,tt,tt,ff]) rfl kqz kqz kqz rfl rfl (o_fieldAddr (o := 2) Tryz.underlying64 rfl rfl sz53 rfl) ?_; refine th_one (i := 15) kqz ?_; refine oh_u (i := 15) (listed' := #[tt,tt,tt,tt,tt,tt,tt,tt,tt,tt,tt,tt,tt,tt,tt,tt]) rfl rfl rfl (o_stU (l' := dcs bl s.ls.length { s with arms := s.arms ++ ars.take i } (.slice a57 ((s.arms ++ ars.take i).length + 1) c57)) rfl upqz sz53 rfl rfl (by show 2 < 5; decide) rfl) drqz ?_; refine th_done kqz ?_; refine q_block_n (q_then_n ?_)
                  have hw3 : WfD { { s with arms := s.arms ++ ars.take i } with arms := { s with arms := s.arms ++ ars.take i }.arms ++ [ars[i]] } := by
                    show WfD { s with arms := (s.arms ++ ars.take i) ++ [ars[i]] }
                    rw [List.append_assoc, ← List.take_succ_eq_append_getElem hi]
                    exact arm_wf hw (by rw [List.length_take]; omega) (by rw [List.any_eq_false] at hnb ⊢; exact fun x hx => hnb x (List.mem_of_mem_take hx)) (fun x hx => by have := hk x (List.mem_of_mem_take hx); exact ⟨this.1.2, this.2⟩)
                  refine tc_pre (A' := F * Dev d { { s with arms := s.arms ++ ars.take i } with arms := { s with arms := s.arms ++ ars.take i }.arms ++ [ars[i]] }) (fun _ _ h => arm_back (F := F) (d := d) (bl := bl) (J := pt b9 (cl [.int .i64 ars[i].1, .slice kb ars[i].2.length kc] 107)) (v := .slice a54 ars[i].2.length c54) (av := .slice a57 ((s.arms ++ ars.take i).length + 1) c57) hw3 hsv hkv3 (h.perm (by first | rfl | ac_rfl))) ?_; refine tc_reg ?_; refine tv adqz ?_; refine tlm ?_; refine nq ?_; exact ⟨_, by omega, i + 1, by omega, rfl, rfl, rfl, rfl, rfl, by rw [List.take_succ_eq_append_getElem hi, ← List.append_assoc]⟩
                · skip
                  refine oh_x (i := 11) (listed' := #[tt,tt,tt,tt,ff,tt,tt,tt,tt,tt,tt,tt,ff,ff,ff,ff]) rfl rfl rfl (o_buildSliceK Tryz.underlying53 sz107 z107 rfl (by first | rfl | simp) (by decide)) ?_; rintro _ _ ⟨b56, rfl, rfl⟩; refine ⟨by repeat (first | with_reducible exact dr_refl | apply dr_keep | apply dr_drop), ?_⟩; refine th_one (i := 4) kqz ?_; refine oh_v (i := 4) (listed' := #[tt,tt,tt,tt,tt,tt,tt,tt,tt,tt,tt,tt,ff,ff,ff,ff]) rfl rfl rfl (o_load p53 rfl hsqz rfl) ?_; refine th_one (i := 12) kqz ?_; refine oh_x (i := 12) (listed' := #[tt,tt,tt,tt,tt,tt,tt,tt,tt,tt,tt,tt,tt,ff,ff,ff]) rfl rfl rfl (o_apB Tryz.underlying53 Tryz.underlying53 sz107 by107 z107 rfl (by decide) (by decide) rfl rfl rfl ctqz rfl (by first | exact bys_all _ | exact ints_all _ | exact wds_all _ | exact bos_all _ | rfl) sq1z (by first | exact bys_sn _ _ | exact ints_sn _ _ | exact wds_sn _ _ | exact bos_sn _ _ | exact (bys_append _ _).symm | rfl)) ?_; rintro _ _ ⟨a57, c57, rfl, hc57, rfl⟩; refine ⟨by repeat (first | with_reducible exact dr_refl | apply dr_keep | apply dr_drop), ?_⟩
                  refine th_take (i := 13) (listed' := #[tt,tt,tt,tt,tt,tt,tt,tt,tt,tt,tt,tt,tt,tt,ff,ff]) rfl kqz kqz kqz rfl rfl (o_nilCheck rfl) ?_; refine th_take (i := 14) (listed' := #[tt,tt,tt,tt,tt,tt,tt,tt,tt,tt,tt,tt,tt,tt,tt,ff]) rfl kqz kqz kqz rfl rfl (o_fieldAddr (o := 2) Tryz.underlying64 rfl rfl sz53 rfl) ?_; refine th_one (i := 15) kqz ?_; refine oh_u (i := 15) (listed' := #[tt,tt,tt,tt,tt,tt,tt,tt,tt,tt,tt,tt,tt,tt,tt,tt]) rfl rfl rfl (o_stU (l' := dcs bl s.ls.length { s with arms := s.arms ++ ars.take i } (.slice a57 ((s.arms ++ ars.take i).length + 1) c57)) rfl upqz sz53 rfl rfl (by show 2 < 5; decide) rfl) drqz ?_; refine th_done kqz ?_; refine q_block_n (q_then_n ?_)
                  have hw3 : WfD { { s with arms := s.arms ++ ars.take i } with arms := { s with arms := s.arms ++ ars.take i }.arms ++ [ars[i]] } := by
                    show WfD { s with arms := (s.arms ++ ars.take i) ++ [ars[i]] }
                    rw [List.append_assoc, ← List.take_succ_eq_append_getElem hi]
                    exact arm_wf hw (by rw [List.length_take]; omega) (by rw [List.any_eq_false] at hnb ⊢; exact fun x hx => hnb x (List.mem_of_mem_take hx)) (fun x hx => by have := hk x (List.mem_of_mem_take hx); exact ⟨this.1.2, this.2⟩)
                  refine tc_pre (A' := F * Dev d { { s with arms := s.arms ++ ars.take i } with arms := { s with arms := s.arms ++ ars.take i }.arms ++ [ars[i]] }) (fun _ _ h => arm_back (F := F) (d := d) (bl := bl) (J := pt b9 (cl [.int .i64 ars[i].1, .slice kb ars[i].2.length kc] 107)) (v := .slice a54 ars[i].2.length c54) (av := .slice a57 ((s.arms ++ ars.take i).length + 1) c57) hw3 hsv hkv3 (h.perm (by first | rfl | ac_rfl))) ?_; refine tc_reg ?_; refine tv adqz ?_; refine tlm ?_; refine nq ?_; exact ⟨_, by omega, i + 1, by omega, rfl, rfl, rfl, rfl, rfl, by rw [List.take_succ_eq_append_getElem hi, ← List.append_assoc]⟩
            · try simp only [lv1, lv2, lv3, lv4, lv5, lv6, Bool.not_true, Bool.not_false] at h
              refine tc_exit ?_; refine q_then_e (q_then_e (q_block_x (q_then_n ?_))); refine sr ?_; refine tla ?_; refine nq ?_; refine tc_ret ?_
              obtain rfl : m = i := by omega
              have hs2 : armS ars s = (0, { s with arms := s.arms ++ ars }) := by unfold armS; rw [if_neg (by rw [hoff]; decide), if_neg (by rw [hnb]; decide), if_neg oqz]
              rw [List.take_of_length_le (show ars.length ≤ m by omega)]
              exact ⟨.int .i64 0, F * Dev d { s with arms := s.arms ++ ars }, res1 rfl rfl, Dr.sat drqz, by rw [hs2], by rw [hs2]⟩
theorem Arm_c {A R : SP} {C : SP → SP} {d : Nat} {s : DevS} (hc : Ct A (Dev d s) R C := by repeat (first | with_reducible exact ct_here | apply ct_left)) {a : Option Addr} {c m : Nat} {kvs : List Value} {ars : List (Int × List Int)} (hr : RdA R a kvs ars) (hm : ars.length = m := by first | assumption | rfl) (hl : m ≤ 17592186044416 := by omega)
    (hk : ∀ x ∈ ars, (-9223372036854775808 ≤ x.1 ∧ x.1 ≤ 9223372036854775807) ∧ x.2.length ≤ 17592186044416 ∧ ∀ k ∈ x.2, k ≤ 9223372036854775807) :
    Fn Tryz.prog 47 #[.pointer (some ⟨d, 0, none⟩), .slice a m c] A (fun r B => ∃ e s2, armS ars s = (e, s2) ∧ r = .int .i64 e ∧ B = C (Dev d s2)) := by
  obtain ⟨rfl, hC⟩ := hc
  exact (ArmW_f R hr hm hl hk).mono fun _ _ h => ⟨(armS ars s).1, (armS ars s).2, rfl, h.1, by rw [hC]; exact h.2⟩
end Go.Vl

namespace Go.Vl
open Go Go.Proofs
theorem Size_c {A R : SP} {C : SP → SP} {d : Nat} {s : DevS} (hc : Ct A (Dev d s) R C := by repeat (first | with_reducible exact ct_here | apply ct_left)) : Fn Tryz.prog 28 #[.pointer (some ⟨d, 0, none⟩)] A (fun r B => r = .int .i64 ((s.ls.length : Int) * 64) ∧ A = B) := by
  obtain ⟨rfl, hC⟩ := hc
  exact fn_devR0 fun _ A bl svs av hR => Size_f A d bl s.ls.length s av hR.d hR.wf.pos hR.wf.top
/-- Lines of which the first are copied. -/
def cpB (ws : List Value) (ls : List LineS) (i : Nat) : List Value := lcs (ws ++ List.replicate (ls.length - i) (.slice none 0 0)) (ls.take i ++ List.replicate (ls.length - i) ⟨[], 0⟩)
end Go.Vl

namespace Go.Vl
open Go Go.Proofs
def stE (s : DevS) : Int := if s.off = true then 5 else 0
theorem stE_rdy (s : DevS) (h : s.off = true) : rdy s.ls.length s.off 0 0 = 5 := by unfold rdy; rw [if_pos h]
theorem Load0_c {A R : SP} {C : SP → SP} {d : Nat} {s : DevS} (hc : Ct A (Dev d s) R C) : Fn Tryz.prog 27 #[.pointer (some ⟨d, 0, none⟩), .int .i64 0, .int .i64 0] A (fun r B => ∃ v : Value, r = .tuple #[v, .int .i64 (stE s)] ∧ A = B) := by
  by_cases h : s.off = true
  · have e : stE s = 5 := if_pos h
    have := LoadNo_c hc (p := 0) (m := 0) oqz oqz (by rw [stE_rdy s h]; decide)
    rw [stE_rdy s h] at this
    rw [e]
    exact this.mono fun _ _ ⟨h1, h2⟩ => ⟨_, h1, h2⟩
  · have e : stE s = 0 := if_neg h
    rw [e]
    intro g w hs
    refine (Load_c hc (p := 0) (m := 0) (by simpa using h) oqz g w hs).mono ?_; rintro e w' ⟨v, B, rfl, ⟨a, c, rfl, _, rfl⟩, hB⟩; exact ⟨_, _, rfl, ⟨_, rfl, rfl⟩, hB.left⟩
attribute [local irreducible] crk crL crc Sl pt ro mbs sbB planT Dev
theorem alive_c {A R : SP} {C : SP → SP} {d : Nat} {s : DevS} (hc : Ct A (Dev d s) R C := by repeat (first | with_reducible exact ct_here | apply ct_left)) :
    Fn Tryz.prog 89 #[.pointer (some ⟨d, 0, none⟩)] (A) (fun r B => r = .int .i64 (stE s) ∧ A = B) := by
  refine fn_enterW (args := [.pointer (some ⟨d, 0, none⟩)]) Tryz.func89 rfl Tryz.ntmps89 (by simp) ?_; refine sr ?_; refine tla ?_; refine nq ?_; refine sr ?_; refine tlm ?_; refine tl_c rfl (o_call bd27 rfl (Load0_c hc)) ?_; rintro _ _ ⟨v7, rfl, rfl⟩; refine tlm ?_; refine tv (o_extract rfl rfl) ?_; refine tv (o_extract rfl rfl) ?_; refine tla ?_; refine tla ?_; refine nq ?_; refine sr ?_; refine tlm ?_; refine tla ?_; refine nq ?_; refine tc_ret ?_; exact ⟨.int .i64 (stE s), A, res1 rfl rfl, fun _ _ h => h, rfl, rfl⟩
end Go.Vl
