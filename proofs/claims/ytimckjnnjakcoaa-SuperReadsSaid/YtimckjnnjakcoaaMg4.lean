/- What the row rests on, part 4: a calculus of assertions, walks of functions over it, and plain laws. Conditions: none. -/
import Derived.Deep.QuietTactic
import Derived.BigQuiet
import Derived.WalkKit
import Derived.Test.YtimckjnnjakcoaaProg
import Derived.OrdersHeld
import Derived.Laws.BytesArg
import Derived.RangeFuncRecord
import Derived.TacticsIn
import Derived.Deep.Slices
import Derived.OpenShut
import Derived.ChangeArms
import Derived.SizedLaws
import Derived.ChangeSame
import Derived.Test.YtimckjnnjakcoaaRows
import Derived.Test.YtimckjnnjakcoaaMg3
set_option linter.unusedVariables false
set_option linter.unusedSimpArgs false
namespace Go.Vl
open Go Go.Proofs
/-- The device's own cells, read within any context. -/
theorem rd_gone {A R : SP} {C : SP → SP} {r : Nat} {s : DevS} (hc : Ct A (RDev r s) R C) {P : Program} {n : Nat} {ρ : Env} {dst : Option Tmp} {t ty : TypeId} {pos : String} {after : Array Edge} {gd : Option (Nat × Bool)} {x : Operand} (hp : plainE P t = true) (hx : ev n ρ x = .pointer (some ⟨r, 0 + 5, none⟩)) :
    OpV P n ρ A ⟨dst, .load t x, ty, pos, after, gd⟩ (.bool s.off) := fun g w hs => by
  obtain ⟨rfl, _⟩ := hc
  obtain ⟨hw, lv, rls, av, kvs, h1, h2, hs'⟩ := rdev_iff.1 hs
  exact o_load (A := R * RDevC r lv rls av kvs s) hp hx rdevC_r rfl g w hs'
theorem rd_bytes {A R : SP} {C : SP → SP} {r : Nat} {s : DevS} (hc : Ct A (RDev r s) R C) {P : Program} {n : Nat} {ρ : Env} {dst : Option Tmp} {t ty : TypeId} {pos : String} {after : Array Edge} {gd : Option (Nat × Bool)} {x : Operand} (hp : plainE P t = true) (hx : ev n ρ x = .pointer (some ⟨r, 0 + 0, none⟩)) :
    OpV P n ρ A ⟨dst, .load t x, ty, pos, after, gd⟩ (.int .i64 ((s.ls.length * 64 : Nat) : Int)) := fun g w hs => by
  obtain ⟨rfl, _⟩ := hc
  obtain ⟨hw, lv, rls, av, kvs, h1, h2, hs'⟩ := rdev_iff.1 hs
  exact o_load (A := R * RDevC r lv rls av kvs s) hp hx rdevC_r rfl g w hs'
attribute [local irreducible] crk crL crc Sl pt ro mbs sbB planT RDev imgS
theorem rRead_off {A R : SP} {C : SP → SP} {r : Nat} {s : DevS} (hc : Ct A (RDev r s) R C := by repeat (first | with_reducible exact ct_here | apply ct_left)) (hoff : s.off = true) :
    Fn Try.prog 66 #[.pointer (some ⟨r, 0, none⟩)] (A) (fun v B => v = .tuple #[.agg (ints [0, 0, 0, 0, 0]).toArray, .int .i64 5] ∧ A = B) := by
  refine fn_enterW (args := [.pointer (some ⟨r, 0, none⟩)]) Try.func66 rfl Try.ntmps66 (by simp) ?_
  refine tc_have (fun _ _ h => wfR_ct hc h) fun hw => ?_
  obtain ⟨rfl, hC⟩ := hc
  have htop := hw.top
  refine tc_seq ?_
  refine tc_reg ?_
  refine tl_x rfl (o_alloc z23 rfl) ?_
  rintro _ _ ⟨b2, rfl, rfl⟩
  refine tl_v rfl (o_assign (by conv => lhs; whnf)) ?_
  refine tl_nil ?_
  refine q_then_n ?_
  refine tc_seq ?_
  refine tc_seq ?_
  refine tc_reg ?_
  refine tl_v rfl (o_move (by conv => lhs; whnf)) ?_
  refine tl_v rfl (o_nilCheck rfl) ?_
  refine tl_v rfl (o_fieldAddr (o := 5) Try.underlying91 rfl rfl sz4 rfl) ?_
  refine tl_v rfl (rd_gone (s := s) (by repeat (first | with_reducible exact ct_here | apply ct_left)) p4 rfl) ?_
  refine tl_nil ?_
  refine q_then_n ?_
  refine tc_cond rfl (fun h => ?_) (fun h => ?_)
  · try simp only [decide_eq_true_eq, decide_eq_false_iff_not, Bool.not_eq_true', Bool.not_eq_false', Option.isNone_some, Option.isNone_none, Bool.not_true, Bool.not_false] at h
    refine tc_seq ?_
    refine tc_reg ?_
    refine tl_v rfl (o_bS (l := ints [0, 0, 0, 0, 0]) pv_nil Try.underlying23 z23 (pl23 Try.underlying23) rfl) ?_
    refine tl_u rfl (o_stUN (l' := ints [0, 0, 0, 0, 0]) rfl (by repeat (first | with_reducible exact upd_here | with_reducible exact upd_pt | apply upd_left)) sz23 rfl rfl rfl (by show 5 ≤ 5; decide) rfl) ?_
    refine tl_v rfl (o_assign (by conv => lhs; whnf)) ?_
    refine tl_nil ?_
    refine q_then_n ?_
    refine tc_ret ?_
    refine q_then_r ?_
    exact ⟨.tuple #[.agg (ints [0, 0, 0, 0, 0]).toArray, .int .i64 5], R * RDev r s, resA2 rfl (rv_cell a23 sz23 rfl (by repeat (first | with_reducible exact has_here | with_reducible exact has_pt | apply has_left)) (by show 5 ≤ 5; decide) rfl) (rv_tmp rfl), Dr.sat (by repeat (first | with_reducible exact dr_refl | apply dr_keep | apply dr_drop)), rfl, rfl⟩
  · exfalso; rw [hoff] at h; cases h
theorem rRead_no {A R : SP} {C : SP → SP} {r : Nat} {s : DevS} (hc : Ct A (RDev r s) R C := by repeat (first | with_reducible exact ct_here | apply ct_left)) {n : Nat} (hoff : s.off = false) (hlen : s.ls.length * 64 = n) (hn : ¬ (36992 ≤ (n : Int) ∧ (n : Int) ≤ 4194304 ∧ (n : Int) % 64 = 0)) :
    Fn Try.prog 66 #[.pointer (some ⟨r, 0, none⟩)] (A) (fun v B => v = .tuple #[.agg (ints [0, 0, 0, 0, 0]).toArray, .int .i64 100] ∧ A = B) := by
  refine fn_enterW (args := [.pointer (some ⟨r, 0, none⟩)]) Try.func66 rfl Try.ntmps66 (by simp) ?_
  refine tc_have (fun _ _ h => wfR_ct hc h) fun hw => ?_
  obtain ⟨rfl, hC⟩ := hc
  have htop := hw.top
  refine tc_seq ?_
  refine tc_reg ?_
  refine tl_x rfl (o_alloc z23 rfl) ?_
  rintro _ _ ⟨b2, rfl, rfl⟩
  refine tl_v rfl (o_assign (by conv => lhs; whnf)) ?_
  refine tl_nil ?_
  refine q_then_n ?_
  refine tc_seq ?_
  refine tc_seq ?_
  refine tc_reg ?_
  refine tl_v rfl (o_move (by conv => lhs; whnf)) ?_
  refine tl_v rfl (o_nilCheck rfl) ?_
  refine tl_v rfl (o_fieldAddr (o := 5) Try.underlying91 rfl rfl sz4 rfl) ?_
  refine tl_v rfl (rd_gone (s := s) (by repeat (first | with_reducible exact ct_here | apply ct_left)) p4 rfl) ?_
  refine tl_nil ?_
  refine q_then_n ?_
  refine tc_cond rfl (fun h => ?_) (fun h => ?_)
  · exfalso; rw [hoff] at h; cases h
  · try simp only [decide_eq_true_eq, decide_eq_false_iff_not, Bool.not_eq_true', Bool.not_eq_false', Option.isNone_some, Option.isNone_none, Bool.not_true, Bool.not_false] at h
    refine tc_skip ?_
    refine q_then_n ?_
    refine tc_seq ?_
    refine tc_reg ?_
    refine tl_v rfl (o_move (by conv => lhs; whnf)) ?_
    refine tl_v rfl (o_nilCheck rfl) ?_
    refine tl_v rfl (o_fieldAddr (o := 0) Try.underlying91 rfl rfl sz3 rfl) ?_
    refine tl_v rfl (rd_bytes (s := s) (by repeat (first | with_reducible exact ct_here | apply ct_left)) p3 rfl) ?_
    refine tl_env (d := 18) (v := .int .i64 (n : Int)) (congrArg (Value.int .i64) (by omega)) ?_
    refine tl_c rfl (o_call bd19 rfl (PlanR_q (planT_f hn))) ?_
    rintro _ _ ⟨rfl, rfl⟩
    refine tl_v rfl (o_move (by conv => lhs; whnf)) ?_
    refine tl_v rfl (o_extract rfl rfl) ?_
    refine tl_v rfl (o_extract rfl rfl) ?_
    refine tl_x rfl (o_alloc z23 rfl) ?_
    rintro _ _ ⟨b4, rfl, rfl⟩
    refine tl_u rfl (o_stUN (l' := ints [0, 0, 0, 0, 0]) rfl (by repeat (first | with_reducible exact upd_here | with_reducible exact upd_pt | apply upd_left)) sz23 rfl rfl rfl (by show 5 ≤ 5; decide) rfl) ?_
    refine tl_v rfl (o_assign (by conv => lhs; whnf)) ?_
    refine tl_nil ?_
    refine q_then_n ?_
    refine tc_seq ?_
    refine tc_seq ?_
    refine tc_reg ?_
    refine tl_v rfl (o_move (by conv => lhs; whnf)) ?_
    refine tl_v rfl (o_nei rfl rfl) ?_
    refine tl_nil ?_
    refine q_then_n ?_
    refine tc_cond rfl (fun h => ?_) (fun h => ?_)
    · try simp only [decide_eq_true_eq, decide_eq_false_iff_not, Bool.not_eq_true', Bool.not_eq_false', Option.isNone_some, Option.isNone_none, Bool.not_true, Bool.not_false] at h
      refine tc_seq ?_
      refine tc_reg ?_
      refine tl_v rfl (o_bS (l := ints [0, 0, 0, 0, 0]) pv_nil Try.underlying23 z23 (pl23 Try.underlying23) rfl) ?_
      refine tl_u rfl (o_stUN (l' := ints [0, 0, 0, 0, 0]) rfl (by repeat (first | with_reducible exact upd_here | with_reducible exact upd_pt | apply upd_left)) sz23 rfl rfl rfl (by show 5 ≤ 5; decide) rfl) ?_
      refine tl_v rfl (o_assign (by conv => lhs; whnf)) ?_
      refine tl_nil ?_
      refine q_then_n ?_
      refine tc_ret ?_
      refine q_then_r ?_
      exact ⟨.tuple #[.agg (ints [0, 0, 0, 0, 0]).toArray, .int .i64 100], R * RDev r s, resA2 rfl (rv_cell a23 sz23 rfl (by repeat (first | with_reducible exact has_here | with_reducible exact has_pt | apply has_left)) (by show 5 ≤ 5; decide) rfl) (rv_tmp rfl), Dr.sat (by repeat (first | with_reducible exact dr_refl | apply dr_keep | apply dr_drop)), rfl, rfl⟩
    · exfalso; simp at h
set_option maxRecDepth 20000 in
set_option maxHeartbeats 1000000 in
theorem rRead_ok {A R : SP} {C : SP → SP} {r : Nat} {s : DevS} (hc : Ct A (RDev r s) R C := by repeat (first | with_reducible exact ct_here | apply ct_left)) {n : Nat} (hoff : s.off = false) (hlen : s.ls.length * 64 = n) (hn : 36992 ≤ n ∧ n ≤ 4194304 ∧ n % 64 = 0) :
    Fn Try.prog 66 #[.pointer (some ⟨r, 0, none⟩)] (A) (fun v B => v = .tuple #[.agg (ints (rdT n (imgS s)).1).toArray, .int .i64 (rdT n (imgS s)).2] ∧ B = C (RDev r s)) := by
  refine fn_enterW (args := [.pointer (some ⟨r, 0, none⟩)]) Try.func66 rfl Try.ntmps66 (by simp) ?_
  refine tc_have (fun _ _ h => wfR_ct hc h) fun hw => ?_
  obtain ⟨rfl, hC⟩ := hc
  have htop := hw.top
  have hil := imgS_len hw
  have hxl : (((imgS s).drop 0).take 64).length = 64 := by rw [List.length_take, List.length_drop]; omega
  have hbl : (sbB [n, 128, 32768, 32896, (n - 32896) / 256, 0]).length = 64 := sbB_len rfl
  refine tc_seq ?_
  refine tc_reg ?_
  refine tl_x rfl (o_alloc z23 rfl) ?_
  rintro _ _ ⟨b2, rfl, rfl⟩
  refine tl_v rfl (o_assign (by conv => lhs; whnf)) ?_
  refine tl_nil ?_
  refine q_then_n ?_
  refine tc_seq ?_
  refine tc_seq ?_
  refine tc_reg ?_
  refine tl_v rfl (o_move (by conv => lhs; whnf)) ?_
  refine tl_v rfl (o_nilCheck rfl) ?_
  refine tl_v rfl (o_fieldAddr (o := 5) Try.underlying91 rfl rfl sz4 rfl) ?_
  refine tl_v rfl (rd_gone (s := s) (by repeat (first | with_reducible exact ct_here | apply ct_left)) p4 rfl) ?_
  refine tl_nil ?_
  refine q_then_n ?_
  refine tc_cond rfl (fun h => ?_) (fun h => ?_)
  · exfalso; rw [hoff] at h; cases h
  · try simp only [decide_eq_true_eq, decide_eq_false_iff_not, Bool.not_eq_true', Bool.not_eq_false', Option.isNone_some, Option.isNone_none, Bool.not_true, Bool.not_false] at h
    refine tc_skip ?_
    refine q_then_n ?_
    refine tc_seq ?_
    refine tc_reg ?_
    refine tl_v rfl (o_move (by conv => lhs; whnf)) ?_
    refine tl_v rfl (o_nilCheck rfl) ?_
    refine tl_v rfl (o_fieldAddr (o := 0) Try.underlying91 rfl rfl sz3 rfl) ?_
    refine tl_v rfl (rd_bytes (s := s) (by repeat (first | with_reducible exact ct_here | apply ct_left)) p3 rfl) ?_
    refine tl_env (d := 18) (v := .int .i64 (n : Int)) (congrArg (Value.int .i64) (by omega)) ?_
    refine tl_c rfl (o_call bd19 rfl (PlanR_ok hn)) ?_
    rintro _ _ ⟨rfl, rfl⟩
    refine tl_v rfl (o_move (by conv => lhs; whnf)) ?_
    refine tl_v rfl (o_extract rfl rfl) ?_
    refine tl_v rfl (o_extract rfl rfl) ?_
    refine tl_x rfl (o_alloc z23 rfl) ?_
    rintro _ _ ⟨b4, rfl, rfl⟩
    refine tl_u rfl (o_stUN (l' := ints [(n : Int), ((128 : Nat) : Int), ((32768 : Nat) : Int), ((32896 : Nat) : Int), (((n - 32896) / 256 : Nat) : Int)]) rfl (by repeat (first | with_reducible exact upd_here | with_reducible exact upd_pt | apply upd_left)) sz23 rfl rfl rfl (by show 5 ≤ 5; decide) rfl) ?_
    refine tl_v rfl (o_assign (by conv => lhs; whnf)) ?_
    refine tl_nil ?_
    refine q_then_n ?_
    refine tc_seq ?_
    refine tc_seq ?_
    refine tc_reg ?_
    refine tl_v rfl (o_move (by conv => lhs; whnf)) ?_
    refine tl_v rfl (o_nei rfl rfl) ?_
    refine tl_nil ?_
    refine q_then_n ?_
    refine tc_cond rfl (fun h => ?_) (fun h => ?_)
    · exfalso; simp at h
    · try simp only [decide_eq_true_eq, decide_eq_false_iff_not, Bool.not_eq_true', Bool.not_eq_false', Option.isNone_some, Option.isNone_none, Bool.not_true, Bool.not_false] at h
      refine tc_skip ?_
      refine q_then_n ?_
      refine tc_seq ?_
      refine tc_reg ?_
      refine tl_v rfl (o_loadN (vs := ints [(n : Int), ((128 : Nat) : Int), ((32768 : Nat) : Int), ((32896 : Nat) : Int), (((n - 32896) / 256 : Nat) : Int)]) a23 sz23 rfl (by repeat (first | with_reducible exact has_here | with_reducible exact has_pt | apply has_left)) (by show 5 ≤ 5; decide) rfl) ?_
      refine tl_c rfl (o_call bd21 rfl (LineR_ok hn)) ?_
      rintro _ _ ⟨a27, c27, rfl, hc27, rfl⟩
      refine tl_v rfl (o_move (by conv => lhs; whnf)) ?_
      refine tl_v rfl (o_extract rfl rfl) ?_
      refine tl_v rfl (o_extract rfl rfl) ?_
      refine tl_v rfl (o_assign (by conv => lhs; whnf)) ?_
      refine tl_v rfl (o_assign (by conv => lhs; whnf)) ?_
      refine tl_nil ?_
      refine q_then_n ?_
      refine tc_seq ?_
      refine tc_reg ?_
      refine tl_v rfl (o_move (by conv => lhs; whnf)) ?_
      refine tl_c rfl (o_call bd106 rfl (rLoad_c (s := s) (p := 0) (m := 64))) ?_
      rintro _ _ ⟨a32, c32, rfl, hc32, rfl⟩
      refine tl_v rfl (o_move (by conv => lhs; whnf)) ?_
      refine tl_v rfl (o_extract rfl rfl) ?_
      refine tl_v rfl (o_extract rfl rfl) ?_
      refine tl_v rfl (o_assign (by conv => lhs; whnf)) ?_
      refine tl_v rfl (o_assign (by conv => lhs; whnf)) ?_
      refine tl_nil ?_
      refine q_then_n ?_
      refine tc_seq ?_
      refine tc_seq ?_
      refine tc_reg ?_
      refine tl_v rfl (o_move (by conv => lhs; whnf)) ?_
      refine tl_v rfl (o_nei rfl rfl) ?_
      refine tl_v rfl (o_move (by conv => lhs; whnf)) ?_
      refine tl_bool (d := 37) rfl (fun h => ?_) (fun h => ?_)
      · exfalso; simp at h
      · try simp only [decide_eq_true_eq, decide_eq_false_iff_not, Bool.not_eq_true', Bool.not_eq_false', Option.isNone_some, Option.isNone_none, Bool.not_true, Bool.not_false] at h
        refine tl_v rfl (o_move (by conv => lhs; whnf)) ?_
        refine tl_v rfl (o_move (by conv => lhs; whnf)) ?_
        refine tl_c rfl (o_call bd22 rfl (EqBytes_c (xs := ((imgS s).drop 0).take 64) (ys := sbB [n, 128, 32768, 32896, (n - 32896) / 256, 0]) (hx := hxl) (hy := hbl))) ?_
        rintro _ _ ⟨rfl, rfl⟩
        refine tl_v rfl (o_not rfl) ?_
        refine tl_v rfl (o_pick_f rfl (by conv => lhs; whnf)) ?_
        refine tl_nil ?_
        refine q_then_n ?_
        refine tc_cond rfl (fun h => ?_) (fun h => ?_)
        · have hr : rdT n (imgS s) = ([0, 0, 0, 0, 0], 100) := by unfold rdT; rw [if_neg (by simpa using h)]
          refine tc_seq ?_
          refine tc_reg ?_
          refine tl_v rfl (o_bS (l := ints [0, 0, 0, 0, 0]) pv_nil Try.underlying23 z23 (pl23 Try.underlying23) rfl) ?_
          refine tl_u rfl (o_stUN (l' := ints [0, 0, 0, 0, 0]) rfl (by repeat (first | with_reducible exact upd_here | with_reducible exact upd_pt | apply upd_left)) sz23 rfl rfl rfl (by show 5 ≤ 5; decide) rfl) ?_
          refine tl_v rfl (o_assign (by conv => lhs; whnf)) ?_
          refine tl_nil ?_
          refine q_then_n ?_
          refine tc_ret ?_
          refine q_then_r ?_
          rw [hr]
          first
          | (exact ⟨.tuple #[.agg (ints [0, 0, 0, 0, 0]).toArray, .int .i64 100], C (RDev r s), resA2 rfl (rv_cell a23 sz23 rfl (by repeat (first | with_reducible exact has_here | with_reducible exact has_pt | apply has_left)) (by show 5 ≤ 5; decide) rfl) (rv_tmp rfl), fun _ _ h => by rw [hC]; exact (Dr.sat (by repeat (first | with_reducible exact dr_refl | apply dr_keep | apply dr_drop))) _ _ h, rfl, rfl⟩)
          | (exact ⟨.tuple #[.agg (ints [(n : Int), ((128 : Nat) : Int), ((32768 : Nat) : Int), ((32896 : Nat) : Int), (((n - 32896) / 256 : Nat) : Int)]).toArray, .int .i64 0], C (RDev r s), resA2 rfl (rv_cell a23 sz23 rfl (by repeat (first | with_reducible exact has_here | with_reducible exact has_pt | apply has_left)) (by show 5 ≤ 5; decide) rfl) (rv_tmp rfl), fun _ _ h => by rw [hC]; exact (Dr.sat (by repeat (first | with_reducible exact dr_refl | apply dr_keep | apply dr_drop))) _ _ h, rfl, rfl⟩)
        · have hr : rdT n (imgS s) = ([(n : Int), ((128 : Nat) : Int), ((32768 : Nat) : Int), ((32896 : Nat) : Int), (((n - 32896) / 256 : Nat) : Int)], 0) := by unfold rdT; rw [if_pos (by simpa using h)]
          refine tc_skip ?_
          refine q_then_n ?_
          refine tc_seq ?_
          refine tc_reg ?_
          refine tl_v rfl (o_loadN (vs := ints [(n : Int), ((128 : Nat) : Int), ((32768 : Nat) : Int), ((32896 : Nat) : Int), (((n - 32896) / 256 : Nat) : Int)]) a23 sz23 rfl (by repeat (first | with_reducible exact has_here | with_reducible exact has_pt | apply has_left)) (by show 5 ≤ 5; decide) rfl) ?_
          refine tl_u rfl (o_stUN (l' := ints [(n : Int), ((128 : Nat) : Int), ((32768 : Nat) : Int), ((32896 : Nat) : Int), (((n - 32896) / 256 : Nat) : Int)]) rfl (by repeat (first | with_reducible exact upd_here | with_reducible exact upd_pt | apply upd_left)) sz23 rfl rfl rfl (by show 5 ≤ 5; decide) rfl) ?_
          refine tl_v rfl (o_assign (by conv => lhs; whnf)) ?_
          refine tl_nil ?_
          refine q_then_n ?_
          refine tc_ret ?_
          rw [hr]
          first
          | (exact ⟨.tuple #[.agg (ints [0, 0, 0, 0, 0]).toArray, .int .i64 100], C (RDev r s), resA2 rfl (rv_cell a23 sz23 rfl (by repeat (first | with_reducible exact has_here | with_reducible exact has_pt | apply has_left)) (by show 5 ≤ 5; decide) rfl) (rv_tmp rfl), fun _ _ h => by rw [hC]; exact (Dr.sat (by repeat (first | with_reducible exact dr_refl | apply dr_keep | apply dr_drop))) _ _ h, rfl, rfl⟩)
          | (exact ⟨.tuple #[.agg (ints [(n : Int), ((128 : Nat) : Int), ((32768 : Nat) : Int), ((32896 : Nat) : Int), (((n - 32896) / 256 : Nat) : Int)]).toArray, .int .i64 0], C (RDev r s), resA2 rfl (rv_cell a23 sz23 rfl (by repeat (first | with_reducible exact has_here | with_reducible exact has_pt | apply has_left)) (by show 5 ≤ 5; decide) rfl) (rv_tmp rfl), fun _ _ h => by rw [hC]; exact (Dr.sat (by repeat (first | with_reducible exact dr_refl | apply dr_keep | apply dr_drop))) _ _ h, rfl, rfl⟩)
theorem rRead_c {A R : SP} {C : SP → SP} {r : Nat} {s : DevS} (hc : Ct A (RDev r s) R C := by repeat (first | with_reducible exact ct_here | apply ct_left)) : Fn Try.prog 66 #[.pointer (some ⟨r, 0, none⟩)] A (fun v B => v = .tuple #[.agg (ints (rdA s).1).toArray, .int .i64 (rdA s).2] ∧ B = C (RDev r s)) := by
  intro g w hs
  have hw := wfR_ct hc hs
  have htop := hw.top
  have hCA : A = C (RDev r s) := by obtain ⟨rfl, hC⟩ := hc; exact (hC _).symm
  unfold rdA
  by_cases h1 : s.off = true
  · rw [if_pos h1]; exact ((rRead_off hc h1).mono fun _ _ h => ⟨h.1, by rw [← h.2]; exact hCA⟩) g w hs
  · rw [if_neg h1]
    by_cases h2 : 578 ≤ s.ls.length
    · rw [if_pos h2]; exact rRead_ok hc (by simpa using h1) rfl (by omega) g w hs
    · rw [if_neg h2]; exact ((rRead_no hc (by simpa using h1) rfl (by omega)).mono fun _ _ h => ⟨h.1, by rw [← h.2]; exact hCA⟩) g w hs
theorem rRead_5 {A R : SP} {C : SP → SP} {r : Nat} {s : DevS} {l : List Int} {e : Int} (hc : Ct A (RDev r s) R C) (hr : rdA s = (l, e)) : Fn Try.prog 66 #[.pointer (some ⟨r, 0, none⟩)] A (fun v B => v = .tuple #[.agg (ints l).toArray, .int .i64 e] ∧ B = C (RDev r s)) := by
  have := rRead_c hc; rw [hr] at this; exact this
theorem rRoot_c {A R : SP} {C : SP → SP} {r : Nat} {s : DevS} (hc : Ct A (RDev r s) R C := by repeat (first | with_reducible exact ct_here | apply ct_left)) :
    Fn Try.prog 68 #[.pointer (some ⟨r, 0, none⟩)] (A) (fun v B => v = .tuple #[.int .u64 (((rootA s).1 : Nat) : Int), .int .i64 (rootA s).2] ∧ B = C (RDev r s)) := by
  refine fn_enterW (args := [.pointer (some ⟨r, 0, none⟩)]) Try.func68 rfl Try.ntmps68 (by simp) ?_
  obtain ⟨q0, q1, q2, q3, q4, hq⟩ := five_i (rdA_len s)
  obtain ⟨e0, he0⟩ : ∃ e0, e0 = (rdA s).2 := ⟨_, rfl⟩
  have hrd : rdA s = ([q0, q1, q2, q3, q4], e0) := by rw [← hq, he0]
  obtain ⟨rfl, hC⟩ := hc
  refine tc_seq ?_
  refine tc_reg ?_
  refine tl_v rfl (o_assign (by conv => lhs; whnf)) ?_
  refine tl_v rfl (o_assign (by conv => lhs; whnf)) ?_
  refine tl_nil ?_
  refine q_then_n ?_
  refine tc_seq ?_
  refine tc_reg ?_
  refine tl_v rfl (o_move (by conv => lhs; whnf)) ?_
  refine tl_c rfl (o_call bd66 rfl (rRead_5 (s := s) (by repeat (first | with_reducible exact ct_here | apply ct_left)) hrd)) ?_
  rintro _ _ ⟨rfl, rfl⟩
  refine tl_v rfl (o_move (by conv => lhs; whnf)) ?_
  refine tl_v rfl (o_extract rfl rfl) ?_
  refine tl_v rfl (o_extract rfl rfl) ?_
  refine tl_x rfl (o_alloc z23 rfl) ?_
  rintro _ _ ⟨b4, rfl, rfl⟩
  refine tl_u rfl (o_stUN (l' := ints [q0, q1, q2, q3, q4]) rfl (by repeat (first | with_reducible exact upd_here | with_reducible exact upd_pt | apply upd_left)) sz23 rfl rfl rfl (by show 5 ≤ 5; decide) rfl) ?_
  refine tl_v rfl (o_assign (by conv => lhs; whnf)) ?_
  refine tl_nil ?_
  refine q_then_n ?_
  refine tc_seq ?_
  refine tc_seq ?_
  refine tc_reg ?_
  refine tl_v rfl (o_move (by conv => lhs; whnf)) ?_
  refine tl_v rfl (o_nei rfl rfl) ?_
  refine tl_nil ?_
  refine q_then_n ?_
  refine tc_cond rfl (fun h => ?_) (fun h => ?_)
  · try simp only [decide_eq_true_eq, decide_eq_false_iff_not, Bool.not_eq_true', Bool.not_eq_false', Option.isNone_some, Option.isNone_none, Bool.not_true, Bool.not_false] at h
    refine tc_seq ?_
    refine tc_reg ?_
    refine tl_v rfl (o_move (by conv => lhs; whnf)) ?_
    refine tl_v rfl (o_assign (by conv => lhs; whnf)) ?_
    refine tl_v rfl (o_assign (by conv => lhs; whnf)) ?_
    refine tl_nil ?_
    refine q_then_n ?_
    refine tc_ret ?_
    refine q_then_r ?_
    first
    | (have hp : rootA s = (0, e0) := by unfold rootA; rw [← he0, if_pos (by simpa using h)]
       rw [hp]; exact ⟨.tuple #[.int .u64 0, .int .i64 e0], C (RDev r s), res2 rfl rfl rfl, fun _ _ h => by rw [hC]; exact Dr.sat (by repeat (first | with_reducible exact dr_refl | apply dr_keep | apply dr_drop)) _ _ h, rfl, rfl⟩)
    | (have hp : rootA s = wordP 64 s := by unfold rootA; rw [← he0, if_neg (by simpa using h)]
       rw [hp]; exact ⟨.tuple #[.int .u64 (((wordP 64 s).1 : Nat) : Int), .int .i64 (wordP 64 s).2], C (RDev r s), res2 rfl rfl rfl, fun _ _ h => by rw [hC]; exact Dr.sat (by repeat (first | with_reducible exact dr_refl | apply dr_keep | apply dr_drop)) _ _ h, rfl, rfl⟩)
  · try simp only [decide_eq_true_eq, decide_eq_false_iff_not, Bool.not_eq_true', Bool.not_eq_false', Option.isNone_some, Option.isNone_none, Bool.not_true, Bool.not_false] at h
    refine tc_skip ?_
    refine q_then_n ?_
    refine tc_seq ?_
    refine tc_reg ?_
    refine tl_v rfl (o_move (by conv => lhs; whnf)) ?_
    refine tl_c rfl (o_call bd126 rfl (rWord_c (s := s) (p := 64))) ?_
    rintro _ _ ⟨rfl, rfl⟩
    refine tl_v rfl (o_extract rfl rfl) ?_
    refine tl_v rfl (o_extract rfl rfl) ?_
    refine tl_v rfl (o_assign (by conv => lhs; whnf)) ?_
    refine tl_v rfl (o_assign (by conv => lhs; whnf)) ?_
    refine tl_nil ?_
    refine q_then_n ?_
    refine tc_ret ?_
    first
    | (have hp : rootA s = (0, e0) := by unfold rootA; rw [← he0, if_pos (by simpa using h)]
       rw [hp]; exact ⟨.tuple #[.int .u64 0, .int .i64 e0], C (RDev r s), res2 rfl rfl rfl, fun _ _ h => by rw [hC]; exact Dr.sat (by repeat (first | with_reducible exact dr_refl | apply dr_keep | apply dr_drop)) _ _ h, rfl, rfl⟩)
    | (have hp : rootA s = wordP 64 s := by unfold rootA; rw [← he0, if_neg (by simpa using h)]
       rw [hp]; exact ⟨.tuple #[.int .u64 (((wordP 64 s).1 : Nat) : Int), .int .i64 (wordP 64 s).2], C (RDev r s), res2 rfl rfl rfl, fun _ _ h => by rw [hC]; exact Dr.sat (by repeat (first | with_reducible exact dr_refl | apply dr_keep | apply dr_drop)) _ _ h, rfl, rfl⟩)
end Go.Vl

set_option linter.unusedVariables false
set_option linter.unusedSimpArgs false
namespace Go.Vl
open Go Go.Proofs
theorem rRoot_5 {A R : SP} {C : SP → SP} {r : Nat} {s : DevS} {w : Nat} {e : Int} (hc : Ct A (RDev r s) R C) (hr : rootA s = (w, e)) : Fn Try.prog 68 #[.pointer (some ⟨r, 0, none⟩)] A (fun v B => v = .tuple #[.int .u64 ((w : Nat) : Int), .int .i64 e] ∧ B = C (RDev r s)) := by
  have := rRoot_c hc; rw [hr] at this; exact this
attribute [local irreducible] crk crL crc Sl pt ro mbs sbB planT Dev RDev imgS lineT fromS
set_option maxRecDepth 20000 in
set_option maxHeartbeats 4000000 in
theorem SuperReads_n1 (A : SP) {sz tn : Int} {fl hcp : Nat} {ha : Option Addr} {hd : List Nat} {rt : Bool} (hrh : Rs A ha (bys hd)) (hhb : ∀ x ∈ hd, x < 256) (hfl : fl < 256) (hht : -9223372036854775808 ≤ tn ∧ tn ≤ 9223372036854775807) (hhl : hd.length ≤ 140737488351232) (hs : sz < 0 ∨ 4194368 < sz) :
    Fn Try.prog 14 #[.agg ([.int .i64 sz, .int .u8 (fl : Nat), .slice ha hd.length hcp, .bool rt, .int .i64 tn] : List Value).toArray] (A) (fun r B => r = .bool true ∧ B = A) := by
  refine fn_enterW (args := [.agg ([.int .i64 sz, .int .u8 (fl : Nat), .slice ha hd.length hcp, .bool rt, .int .i64 tn] : List Value).toArray]) Try.func14 rfl Try.ntmps14 (by simp) ?_
  refine tc_seq ?_
  refine tc_reg ?_
  refine tl_x rfl (o_box rfl rfl) ?_
  rintro _ _ ⟨b1, rfl, rfl⟩
  refine tl_v rfl (o_assign (by conv => lhs; whnf)) ?_
  refine tl_nil ?_
  refine q_then_n ?_
  refine tc_seq ?_
  refine tc_reg ?_
  refine tl_v rfl (o_loadN (vs := [.int .i64 sz, .int .u8 (fl : Nat), .slice ha hd.length hcp, .bool rt, .int .i64 tn]) a121 sz121 rfl (by repeat (first | with_reducible exact has_here | with_reducible exact has_pt | apply has_left)) (by show 5 ≤ 5; decide) rfl) ?_
  refine tl_c rfl (o_call bd64 rfl (ImBytes_no (hrh := (by repeat (first | exact hrh | apply Rs.left))) (hhb := hhb) (hfl := hfl) (hht := hht) (hs := hs))) ?_
  rintro _ _ ⟨rfl, rfl⟩
  refine tl_v rfl (o_assign (by conv => lhs; whnf)) ?_
  refine tl_nil ?_
  refine q_then_n ?_
  refine tc_seq ?_
  refine tc_reg ?_
  refine tl_v rfl (o_move (by conv => lhs; whnf)) ?_
  refine tl_c rfl (o_call bd39 rfl (CopyBytes_c (xs := []) (hr := rs_nil) (hm := rfl))) ?_
  rintro _ _ ⟨a21, c21, rfl, hc21, rfl⟩
  refine tl_c rfl (o_call bd42 rfl (FromNo_c (hno := by decide))) ?_
  rintro _ _ ⟨rfl, rfl⟩
  refine tl_v rfl (o_move (by conv => lhs; whnf)) ?_
  refine tl_v rfl (o_extract rfl rfl) ?_
  refine tl_v rfl (o_extract rfl rfl) ?_
  refine tl_v rfl (o_assign (by conv => lhs; whnf)) ?_
  refine tl_v rfl (o_assign (by conv => lhs; whnf)) ?_
  refine tl_nil ?_
  refine q_then_n ?_
  refine tc_seq ?_
  refine tc_reg ?_
  refine tl_v rfl (o_move (by conv => lhs; whnf)) ?_
  refine tl_c rfl (o_call bd65 rfl (rFromNo_c (hno := by decide))) ?_
  rintro _ _ ⟨rfl, rfl⟩
  refine tl_v rfl (o_move (by conv => lhs; whnf)) ?_
  refine tl_v rfl (o_extract rfl rfl) ?_
  refine tl_v rfl (o_extract rfl rfl) ?_
  refine tl_v rfl (o_assign (by conv => lhs; whnf)) ?_
  refine tl_v rfl (o_assign (by conv => lhs; whnf)) ?_
  refine tl_nil ?_
  refine q_then_n ?_
  refine tc_seq ?_
  refine tc_seq ?_
  refine tc_reg ?_
  refine tl_v rfl (o_move (by conv => lhs; whnf)) ?_
  refine tl_v rfl (o_move (by conv => lhs; whnf)) ?_
  refine tl_v rfl (o_nei rfl rfl) ?_
  refine tl_nil ?_
  refine q_then_n ?_
  refine tc_cond rfl (fun h => ?_) (fun h => ?_)
  · exfalso; simp at h
  · try simp only [decide_eq_true_eq, decide_eq_false_iff_not, Bool.not_eq_true', Bool.not_eq_false', Option.isNone_some, Option.isNone_none, Bool.not_true, Bool.not_false] at h
    refine tc_skip ?_
    refine q_then_n ?_
    refine tc_seq ?_
    refine tc_seq ?_
    refine tc_reg ?_
    refine tl_v rfl (o_move (by conv => lhs; whnf)) ?_
    refine tl_v rfl (o_nei rfl rfl) ?_
    refine tl_nil ?_
    refine q_then_n ?_
    refine tc_cond rfl (fun h => ?_) (fun h => ?_)
    · try simp only [decide_eq_true_eq, decide_eq_false_iff_not, Bool.not_eq_true', Bool.not_eq_false', Option.isNone_some, Option.isNone_none, Bool.not_true, Bool.not_false] at h
      refine tc_seq ?_
      refine tc_reg ?_
      refine tl_c rfl (o_call bd24 rfl (works_c)) ?_
      rintro _ _ ⟨rfl, rfl⟩
      refine tl_v rfl (o_assign (by conv => lhs; whnf)) ?_
      refine tl_nil ?_
      refine q_then_n ?_
      refine tc_ret ?_
      refine q_then_r ?_
      exact ⟨.bool true, A, res1 rfl rfl, Dr.sat (by repeat (first | with_reducible exact dr_refl | apply dr_keep | apply dr_drop)), rfl, rfl⟩
    · exfalso; simp at h
set_option maxRecDepth 20000 in
set_option maxHeartbeats 4000000 in
theorem SuperReads_n2 (A : SP) {n : Nat} {tn : Int} {fl hcp : Nat} {ha : Option Addr} {hd : List Nat} {rt : Bool} (hrh : Rs A ha (bys hd)) (hhb : ∀ x ∈ hd, x < 256) (hfl : fl < 256) (hht : -9223372036854775808 ≤ tn ∧ tn ≤ 9223372036854775807) (hhl : hd.length ≤ 140737488351232) (hn : n ≤ 4194368) (hno : fitsB (n : Nat) = false) :
    Fn Try.prog 14 #[.agg ([.int .i64 (n : Int), .int .u8 (fl : Nat), .slice ha hd.length hcp, .bool rt, .int .i64 tn] : List Value).toArray] (A) (fun r B => r = .bool true ∧ B = A) := by
  refine fn_enterW (args := [.agg ([.int .i64 (n : Int), .int .u8 (fl : Nat), .slice ha hd.length hcp, .bool rt, .int .i64 tn] : List Value).toArray]) Try.func14 rfl Try.ntmps14 (by simp) ?_
  refine tc_seq ?_
  refine tc_reg ?_
  refine tl_x rfl (o_box rfl rfl) ?_
  rintro _ _ ⟨b1, rfl, rfl⟩
  refine tl_v rfl (o_assign (by conv => lhs; whnf)) ?_
  refine tl_nil ?_
  refine q_then_n ?_
  refine tc_seq ?_
  refine tc_reg ?_
  refine tl_v rfl (o_loadN (vs := [.int .i64 (n : Int), .int .u8 (fl : Nat), .slice ha hd.length hcp, .bool rt, .int .i64 tn]) a121 sz121 rfl (by repeat (first | with_reducible exact has_here | with_reducible exact has_pt | apply has_left)) (by show 5 ≤ 5; decide) rfl) ?_
  refine tl_c rfl (o_call bd64 rfl (ImBytes_ok (hrh := (by repeat (first | exact hrh | apply Rs.left))) (hhb := hhb) (hfl := hfl) (hht := hht) (hn := by omega) (hhl := hhl))) ?_
  rintro _ _ ⟨a18, c18, xs, rfl, hc18, hxl, hxb, rfl⟩
  refine tl_v rfl (o_assign (by conv => lhs; whnf)) ?_
  refine tl_nil ?_
  refine q_then_n ?_
  refine tc_seq ?_
  refine tc_reg ?_
  refine tl_v rfl (o_move (by conv => lhs; whnf)) ?_
  refine tl_c rfl (o_call bd39 rfl (CopyBytes_c (xs := xs))) ?_
  rintro _ _ ⟨u21, c21, rfl, hc21, rfl⟩
  refine tl_c rfl (o_call bd42 rfl (FromNo_c (m := n) (hno := hno))) ?_
  rintro _ _ ⟨rfl, rfl⟩
  refine tl_v rfl (o_move (by conv => lhs; whnf)) ?_
  refine tl_v rfl (o_extract rfl rfl) ?_
  refine tl_v rfl (o_extract rfl rfl) ?_
  refine tl_v rfl (o_assign (by conv => lhs; whnf)) ?_
  refine tl_v rfl (o_assign (by conv => lhs; whnf)) ?_
  refine tl_nil ?_
  refine q_then_n ?_
  refine tc_seq ?_
  refine tc_reg ?_
  refine tl_v rfl (o_move (by conv => lhs; whnf)) ?_
  refine tl_c rfl (o_call bd65 rfl (rFromNo_c (m := n) (hno := hno))) ?_
  rintro _ _ ⟨rfl, rfl⟩
  refine tl_v rfl (o_move (by conv => lhs; whnf)) ?_
  refine tl_v rfl (o_extract rfl rfl) ?_
  refine tl_v rfl (o_extract rfl rfl) ?_
  refine tl_v rfl (o_assign (by conv => lhs; whnf)) ?_
  refine tl_v rfl (o_assign (by conv => lhs; whnf)) ?_
  refine tl_nil ?_
  refine q_then_n ?_
  refine tc_seq ?_
  refine tc_seq ?_
  refine tc_reg ?_
  refine tl_v rfl (o_move (by conv => lhs; whnf)) ?_
  refine tl_v rfl (o_move (by conv => lhs; whnf)) ?_
  refine tl_v rfl (o_nei rfl rfl) ?_
  refine tl_nil ?_
  refine q_then_n ?_
  refine tc_cond rfl (fun h => ?_) (fun h => ?_)
  · exfalso; simp at h
  · try simp only [decide_eq_true_eq, decide_eq_false_iff_not, Bool.not_eq_true', Bool.not_eq_false', Option.isNone_some, Option.isNone_none, Bool.not_true, Bool.not_false] at h
    refine tc_skip ?_
    refine q_then_n ?_
    refine tc_seq ?_
    refine tc_seq ?_
    refine tc_reg ?_
    refine tl_v rfl (o_move (by conv => lhs; whnf)) ?_
    refine tl_v rfl (o_nei rfl rfl) ?_
    refine tl_nil ?_
    refine q_then_n ?_
    refine tc_cond rfl (fun h => ?_) (fun h => ?_)
    · try simp only [decide_eq_true_eq, decide_eq_false_iff_not, Bool.not_eq_true', Bool.not_eq_false', Option.isNone_some, Option.isNone_none, Bool.not_true, Bool.not_false] at h
      refine tc_seq ?_
      refine tc_reg ?_
      refine tl_c rfl (o_call bd24 rfl (works_c)) ?_
      rintro _ _ ⟨rfl, rfl⟩
      refine tl_v rfl (o_assign (by conv => lhs; whnf)) ?_
      refine tl_nil ?_
      refine q_then_n ?_
      refine tc_ret ?_
      refine q_then_r ?_
      exact ⟨.bool true, A, res1 rfl rfl, Dr.sat (by repeat (first | with_reducible exact dr_refl | apply dr_keep | apply dr_drop)), rfl, rfl⟩
    · exfalso; simp at h
set_option maxRecDepth 20000 in
set_option maxHeartbeats 4000000 in
theorem SuperReads_ok (A : SP) {n : Nat} {tn : Int} {fl hcp : Nat} {ha : Option Addr} {hd : List Nat} {rt : Bool} (hrh : Rs A ha (bys hd)) (hhb : ∀ x ∈ hd, x < 256) (hfl : fl < 256) (hht : -9223372036854775808 ≤ tn ∧ tn ≤ 9223372036854775807) (hhl : hd.length ≤ 140737488351232) {k : Nat} (hk : n = k * 64) (hk0 : 0 < k) (hn2 : n ≤ 4194304) :
    Fn Try.prog 14 #[.agg ([.int .i64 (n : Int), .int .u8 (fl : Nat), .slice ha hd.length hcp, .bool rt, .int .i64 tn] : List Value).toArray] (A) (fun r B => r = .bool true ∧ B = A) := by
  refine fn_enterW (args := [.agg ([.int .i64 (n : Int), .int .u8 (fl : Nat), .slice ha hd.length hcp, .bool rt, .int .i64 tn] : List Value).toArray]) Try.func14 rfl Try.ntmps14 (by simp) ?_
  refine tc_seq ?_
  refine tc_reg ?_
  refine tl_x rfl (o_box rfl rfl) ?_
  rintro _ _ ⟨b1, rfl, rfl⟩
  refine tl_v rfl (o_assign (by conv => lhs; whnf)) ?_
  refine tl_nil ?_
  refine q_then_n ?_
  refine tc_seq ?_
  refine tc_reg ?_
  refine tl_v rfl (o_loadN (vs := [.int .i64 (n : Int), .int .u8 (fl : Nat), .slice ha hd.length hcp, .bool rt, .int .i64 tn]) a121 sz121 rfl (by repeat (first | with_reducible exact has_here | with_reducible exact has_pt | apply has_left)) (by show 5 ≤ 5; decide) rfl) ?_
  refine tl_c rfl (o_call bd64 rfl (ImBytes_ok (hrh := (by repeat (first | exact hrh | apply Rs.left))) (hhb := hhb) (hfl := hfl) (hht := hht) (hn := by omega) (hhl := hhl))) ?_
  rintro _ _ ⟨a18, c18, xs, rfl, hc18, hxl, hxb, rfl⟩
  refine tl_v rfl (o_assign (by conv => lhs; whnf)) ?_
  refine tl_nil ?_
  refine q_then_n ?_
  refine tc_seq ?_
  refine tc_reg ?_
  refine tl_v rfl (o_move (by conv => lhs; whnf)) ?_
  refine tl_c rfl (o_call bd39 rfl (CopyBytes_c (xs := xs))) ?_
  rintro _ _ ⟨u21, c21, rfl, hc21, rfl⟩
  refine tl_c rfl (o_call bd42 rfl (From_c (n := k) (xs := xs))) ?_
  rintro _ _ ⟨d22, rfl, rfl⟩
  refine tl_v rfl (o_move (by conv => lhs; whnf)) ?_
  refine tl_v rfl (o_extract rfl rfl) ?_
  refine tl_v rfl (o_extract rfl rfl) ?_
  refine tl_v rfl (o_assign (by conv => lhs; whnf)) ?_
  refine tl_v rfl (o_assign (by conv => lhs; whnf)) ?_
  refine tl_nil ?_
  refine q_then_n ?_
  refine tc_seq ?_
  refine tc_reg ?_
  refine tl_v rfl (o_move (by conv => lhs; whnf)) ?_
  refine tl_c rfl (o_call bd65 rfl (rFrom_c (n := k) (xs := xs))) ?_
  rintro _ _ ⟨d27, rfl, rfl⟩
  refine tl_v rfl (o_move (by conv => lhs; whnf)) ?_
  refine tl_v rfl (o_extract rfl rfl) ?_
  refine tl_v rfl (o_extract rfl rfl) ?_
  refine tl_v rfl (o_assign (by conv => lhs; whnf)) ?_
  refine tl_v rfl (o_assign (by conv => lhs; whnf)) ?_
  refine tl_nil ?_
  refine q_then_n ?_
  refine tc_seq ?_
  refine tc_seq ?_
  refine tc_reg ?_
  refine tl_v rfl (o_move (by conv => lhs; whnf)) ?_
  refine tl_v rfl (o_move (by conv => lhs; whnf)) ?_
  refine tl_v rfl (o_nei rfl rfl) ?_
  refine tl_nil ?_
  refine q_then_n ?_
  refine tc_cond rfl (fun h => ?_) (fun h => ?_)
  · exfalso; simp at h
  · try simp only [decide_eq_true_eq, decide_eq_false_iff_not, Bool.not_eq_true', Bool.not_eq_false', Option.isNone_some, Option.isNone_none, Bool.not_true, Bool.not_false] at h
    refine tc_skip ?_
    refine q_then_n ?_
    refine tc_seq ?_
    refine tc_seq ?_
    refine tc_reg ?_
    refine tl_v rfl (o_move (by conv => lhs; whnf)) ?_
    refine tl_v rfl (o_nei rfl rfl) ?_
    refine tl_nil ?_
    refine q_then_n ?_
    refine tc_cond rfl (fun h => ?_) (fun h => ?_)
    · exfalso; simp at h
    · try simp only [decide_eq_true_eq, decide_eq_false_iff_not, Bool.not_eq_true', Bool.not_eq_false', Option.isNone_some, Option.isNone_none, Bool.not_true, Bool.not_false] at h
      refine tc_skip ?_
      refine q_then_n ?_
      refine tc_seq ?_
      refine tc_seq ?_
      refine tc_reg ?_
      refine tl_v rfl (o_assign (by conv => lhs; whnf)) ?_
      refine tl_nil ?_
      refine q_then_n ?_
      refine tc_block ?_
      refine tc_pre (A' := A * Dev d22 (fromS k xs) * RDev d27 (fromS k xs)) (Dr.sat (by repeat (first | with_reducible exact dr_refl | apply dr_keep | apply dr_drop))) ?_
      refine tc_loop (fun kk ρ BB => ∃ (i : Nat) (s1 : DevS), (i ≤ 2) ∧ kk = 2 - i ∧ ρ 8 = .int .i64 (i : Nat) ∧ ρ 4 = .pointer (some ⟨d22, 0, none⟩) ∧ ρ 6 = .pointer (some ⟨d27, 0, none⟩) ∧ BB = A * Dev d22 s1 * RDev d27 s1) (m := 2 - (0)) ?_ ?_
      · exact ⟨0, fromS k xs, by omega, rfl, rfl, rfl, rfl, rfl⟩
      · intro k ρ B hI
        obtain ⟨i, s1, hp0, hkk1, hE8, hE4, hE6, rfl⟩ := hI
        refine tc_env (d := 8) hE8 ?_
        refine tc_env (d := 4) hE4 ?_
        refine tc_env (d := 6) hE6 ?_
        clear hE8 hE4 hE6
        refine tc_seq ?_
        refine tc_seq ?_
        refine tc_reg ?_
        refine tl_v rfl (o_move (by conv => lhs; whnf)) ?_
        refine tl_v rfl (o_lss rfl rfl) ?_
        refine tl_nil ?_
        refine q_then_n ?_
        refine tc_cond rfl (fun h => ?_) (fun h => ?_)
        · have hi : i < 2 := by simp at h; omega
          obtain ⟨q0, q1, q2, q3, q4, hq⟩ := five_i (rdA_len s1)
          obtain ⟨e0, he0⟩ : ∃ e0, e0 = (rdA s1).2 := ⟨_, rfl⟩
          have hrd : rdA s1 = ([q0, q1, q2, q3, q4], e0) := by rw [← hq, he0]
          obtain ⟨w6, hw6⟩ : ∃ w6, w6 = (rootA s1).1 := ⟨_, rfl⟩
          obtain ⟨e6, he6⟩ : ∃ e6, e6 = (rootA s1).2 := ⟨_, rfl⟩
          have hroot : rootA s1 = (w6, e6) := by rw [hw6, he6]
          refine tc_skip ?_
          refine q_then_n ?_
          refine tc_seq ?_
          refine tc_block ?_
          refine tc_seq ?_
          refine tc_reg ?_
          refine tl_v rfl (o_move (by conv => lhs; whnf)) ?_
          refine tl_c rfl (o_call bd48 rfl (Read_5 (s := s1) (by repeat (first | with_reducible exact ct_here | apply ct_left)) hrd)) ?_
          rintro _ _ ⟨rfl, rfl⟩
          refine tl_v rfl (o_move (by conv => lhs; whnf)) ?_
          refine tl_v rfl (o_extract rfl rfl) ?_
          refine tl_v rfl (o_extract rfl rfl) ?_
          refine tl_x rfl (o_alloc z23 rfl) ?_
          rintro _ _ ⟨b9, rfl, rfl⟩
          refine tl_u rfl (o_stUN (l' := ints [q0, q1, q2, q3, q4]) rfl (by repeat (first | with_reducible exact upd_here | with_reducible exact upd_pt | apply upd_left)) sz23 rfl rfl rfl (by show 5 ≤ 5; decide) rfl) ?_
          refine tl_v rfl (o_assign (by conv => lhs; whnf)) ?_
          refine tl_nil ?_
          refine q_then_n ?_
          refine tc_seq ?_
          refine tc_reg ?_
          refine tl_v rfl (o_move (by conv => lhs; whnf)) ?_
          refine tl_c rfl (o_call bd66 rfl (rRead_5 (s := s1) (by repeat (first | with_reducible exact ct_here | apply ct_left)) hrd)) ?_
          rintro _ _ ⟨rfl, rfl⟩
          refine tl_v rfl (o_move (by conv => lhs; whnf)) ?_
          refine tl_v rfl (o_extract rfl rfl) ?_
          refine tl_v rfl (o_extract rfl rfl) ?_
          refine tl_x rfl (o_alloc z23 rfl) ?_
          rintro _ _ ⟨b11, rfl, rfl⟩
          refine tl_u rfl (o_stUN (l' := ints [q0, q1, q2, q3, q4]) rfl (by repeat (first | with_reducible exact upd_here | with_reducible exact upd_pt | apply upd_left)) sz23 rfl rfl rfl (by show 5 ≤ 5; decide) rfl) ?_
          refine tl_v rfl (o_assign (by conv => lhs; whnf)) ?_
          refine tl_nil ?_
          refine q_then_n ?_
          refine tc_seq ?_
          refine tc_reg ?_
          refine tl_v rfl (o_move (by conv => lhs; whnf)) ?_
          refine tl_c rfl (o_call bd67 rfl (Root_5 (s := s1) (by repeat (first | with_reducible exact ct_here | apply ct_left)) hroot)) ?_
          rintro _ _ ⟨rfl, rfl⟩
          refine tl_v rfl (o_move (by conv => lhs; whnf)) ?_
          refine tl_v rfl (o_extract rfl rfl) ?_
          refine tl_v rfl (o_extract rfl rfl) ?_
          refine tl_v rfl (o_assign (by conv => lhs; whnf)) ?_
          refine tl_v rfl (o_assign (by conv => lhs; whnf)) ?_
          refine tl_nil ?_
          refine q_then_n ?_
          refine tc_seq ?_
          refine tc_reg ?_
          refine tl_v rfl (o_move (by conv => lhs; whnf)) ?_
          refine tl_c rfl (o_call bd68 rfl (rRoot_5 (s := s1) (by repeat (first | with_reducible exact ct_here | apply ct_left)) hroot)) ?_
          rintro _ _ ⟨rfl, rfl⟩
          refine tl_v rfl (o_move (by conv => lhs; whnf)) ?_
          refine tl_v rfl (o_extract rfl rfl) ?_
          refine tl_v rfl (o_extract rfl rfl) ?_
          refine tl_v rfl (o_assign (by conv => lhs; whnf)) ?_
          refine tl_v rfl (o_assign (by conv => lhs; whnf)) ?_
          refine tl_nil ?_
          refine q_then_n ?_
          refine tc_seq ?_
          refine tc_seq ?_
          refine tc_reg ?_
          refine tl_v rfl (o_loadN (vs := ints [q0, q1, q2, q3, q4]) a23 sz23 rfl (by repeat (first | with_reducible exact has_here | with_reducible exact has_pt | apply has_left)) (by show 5 ≤ 5; decide) rfl) ?_
          refine tl_v rfl (o_loadN (vs := ints [q0, q1, q2, q3, q4]) a23 sz23 rfl (by repeat (first | with_reducible exact has_here | with_reducible exact has_pt | apply has_left)) (by show 5 ≤ 5; decide) rfl) ?_
          refine tl_v rfl (o_nest (k := 5) (l := [q0, q1, q2, q3, q4]) (m := [q0, q1, q2, q3, q4]) Try.underlying23 (by kernel_rfl) (by kernel_rfl) (by kernel_rfl) rfl rfl rfl rfl) ?_
          refine tl_v rfl (o_move (by conv => lhs; whnf)) ?_
          refine tl_bool (d := 63) rfl (fun h => ?_) (fun h => ?_)
          · exfalso; simp at h
          · try simp only [decide_eq_true_eq, decide_eq_false_iff_not, Bool.not_eq_true', Bool.not_eq_false', Option.isNone_some, Option.isNone_none, Bool.not_true, Bool.not_false] at h
            refine tl_v rfl (o_move (by conv => lhs; whnf)) ?_
            refine tl_v rfl (o_move (by conv => lhs; whnf)) ?_
            refine tl_v rfl (o_nei rfl rfl) ?_
            refine tl_v rfl (o_pick_f rfl (by conv => lhs; whnf)) ?_
            refine tl_v rfl (o_move (by conv => lhs; whnf)) ?_
            refine tl_bool (d := 68) rfl (fun h => ?_) (fun h => ?_)
            · exfalso; simp at h
            · try simp only [decide_eq_true_eq, decide_eq_false_iff_not, Bool.not_eq_true', Bool.not_eq_false', Option.isNone_some, Option.isNone_none, Bool.not_true, Bool.not_false] at h
              refine tl_v rfl (o_move (by conv => lhs; whnf)) ?_
              refine tl_v rfl (o_move (by conv => lhs; whnf)) ?_
              refine tl_v rfl (o_nei rfl rfl) ?_
              refine tl_v rfl (o_pick_f rfl (by conv => lhs; whnf)) ?_
              refine tl_v rfl (o_move (by conv => lhs; whnf)) ?_
              refine tl_bool (d := 73) rfl (fun h => ?_) (fun h => ?_)
              · exfalso; simp at h
              · try simp only [decide_eq_true_eq, decide_eq_false_iff_not, Bool.not_eq_true', Bool.not_eq_false', Option.isNone_some, Option.isNone_none, Bool.not_true, Bool.not_false] at h
                refine tl_v rfl (o_move (by conv => lhs; whnf)) ?_
                refine tl_v rfl (o_move (by conv => lhs; whnf)) ?_
                refine tl_v rfl (o_nei rfl rfl) ?_
                refine tl_v rfl (o_pick_f rfl (by conv => lhs; whnf)) ?_
                refine tl_v rfl (o_move (by conv => lhs; whnf)) ?_
                refine tl_bool (d := 78) rfl (fun h => ?_) (fun h => ?_)
                · exfalso; simp at h
                · try simp only [decide_eq_true_eq, decide_eq_false_iff_not, Bool.not_eq_true', Bool.not_eq_false', Option.isNone_some, Option.isNone_none, Bool.not_true, Bool.not_false] at h
                  refine tl_v rfl (o_move (by conv => lhs; whnf)) ?_
                  refine tl_c rfl (o_call bd41 rfl (Ops_c (s := s1))) ?_
                  rintro _ _ ⟨rfl, rfl⟩
                  refine tl_v rfl (o_move (by conv => lhs; whnf)) ?_
                  refine tl_c rfl (o_call bd69 rfl (rOps_c (s := s1))) ?_
                  rintro _ _ ⟨rfl, rfl⟩
                  refine tl_v rfl (o_nei rfl rfl) ?_
                  refine tl_v rfl (o_pick_f rfl (by conv => lhs; whnf)) ?_
                  refine tl_v rfl (o_move (by conv => lhs; whnf)) ?_
                  refine tl_bool (d := 85) rfl (fun h => ?_) (fun h => ?_)
                  · exfalso; simp at h
                  · try simp only [decide_eq_true_eq, decide_eq_false_iff_not, Bool.not_eq_true', Bool.not_eq_false', Option.isNone_some, Option.isNone_none, Bool.not_true, Bool.not_false] at h
                    refine tl_v rfl (o_move (by conv => lhs; whnf)) ?_
                    refine tl_c rfl (o_call bd33 rfl (Image_c (s := s1))) ?_
                    rintro _ _ ⟨a87, c87, rfl, hc87, rfl⟩
                    refine tl_v rfl (o_move (by conv => lhs; whnf)) ?_
                    refine tl_c rfl (o_call bd70 rfl (rImage_c (s := s1))) ?_
                    rintro _ _ ⟨a89, c89, rfl, hc89, rfl⟩
                    refine tl_have (fun _ _ h => wfR_ct (r := d27) (s := s1) (by repeat (first | with_reducible exact ct_here | apply ct_left)) h) fun hw1 => ?_
                    have hil := imgS_len hw1
                    have htop1 := hw1.top
                    refine tl_c rfl (o_call bd22 rfl (EqBytes_c (xs := imgS s1) (ys := imgS s1) (hx := hil) (hy := hil))) ?_
                    rintro _ _ ⟨rfl, rfl⟩
                    refine tl_env (d := 90) (v := .bool true) (congrArg Value.bool (decide_eq_true rfl)) ?_
                    refine tl_v rfl (o_not rfl) ?_
                    refine tl_v rfl (o_pick_f rfl (by conv => lhs; whnf)) ?_
                    refine tl_nil ?_
                    refine q_then_n ?_
                    refine tc_cond rfl (fun h => ?_) (fun h => ?_)
                    · exfalso; simp at h
                    · try simp only [decide_eq_true_eq, decide_eq_false_iff_not, Bool.not_eq_true', Bool.not_eq_false', Option.isNone_some, Option.isNone_none, Bool.not_true, Bool.not_false] at h
                      refine tc_skip ?_
                      refine q_then_n ?_
                      refine tc_seq ?_
                      refine tc_reg ?_
                      refine tl_v rfl (o_move (by conv => lhs; whnf)) ?_
                      refine tl_v rfl (o_eqi rfl rfl) ?_
                      refine tl_v rfl (o_move (by conv => lhs; whnf)) ?_
                      refine tl_bool (d := 95) rfl (fun h => ?_) (fun h => ?_)
                      · try simp only [decide_eq_true_eq, decide_eq_false_iff_not, Bool.not_eq_true', Bool.not_eq_false', Option.isNone_some, Option.isNone_none, Bool.not_true, Bool.not_false] at h
                        refine tl_v rfl (o_move (by conv => lhs; whnf)) ?_
                        refine tl_c rfl (o_call bd28 rfl (Crash_c (s := s1) (keep := []) (hr := rs_nil) (hk := fun x h => by simp at h) (hm := rfl))) ?_
                        rintro _ _ ⟨e97, s97, hs97, rfl, rfl⟩
                        refine tl_v rfl (o_move (by conv => lhs; whnf)) ?_
                        refine tl_c rfl (o_call bd71 rfl (rCrash_c (s := s1) (keep := []) (hr := rs_nil) (hk := fun x h => by simp at h) (hm := rfl))) ?_
                        rintro _ _ ⟨e99, s99, hs99, rfl, rfl⟩
                        obtain ⟨rfl, rfl⟩ : e97 = e99 ∧ s97 = s99 := by rw [hs97] at hs99; simpa using hs99
                        refine tl_v rfl (o_nei rfl rfl) ?_
                        refine tl_v rfl (o_pick_t rfl (by conv => lhs; whnf)) ?_
                        refine tl_nil ?_
                        refine q_then_n ?_
                        refine tc_cond rfl (fun h => ?_) (fun h => ?_)
                        · exfalso; simp at h
                        · try simp only [decide_eq_true_eq, decide_eq_false_iff_not, Bool.not_eq_true', Bool.not_eq_false', Option.isNone_some, Option.isNone_none, Bool.not_true, Bool.not_false] at h
                          refine tc_skip ?_
                          refine q_block_n (q_then_n ?_)
                          refine tc_pre (A' := A * Dev d22 _ * RDev d27 _) (Dr.sat (by repeat (first | with_reducible exact dr_refl | apply dr_keep | apply dr_drop))) ?_
                          refine tc_reg ?_
                          refine tl_v rfl (o_move (by conv => lhs; whnf)) ?_
                          refine tl_v rfl (by first | exact o_addI rfl rfl (by omega) | exact o_add rfl rfl) ?_
                          refine tl_v rfl (o_assign (by conv => lhs; whnf)) ?_
                          refine tl_nil ?_
                          refine q_then_n ?_
                          exact ⟨_, by omega, i + 1, _, by omega, rfl, rfl, rfl, rfl, rfl⟩
                      · try simp only [decide_eq_true_eq, decide_eq_false_iff_not, Bool.not_eq_true', Bool.not_eq_false', Option.isNone_some, Option.isNone_none, Bool.not_true, Bool.not_false] at h
                        refine tl_skip rfl ?_
                        refine tl_skip rfl ?_
                        refine tl_skip rfl ?_
                        refine tl_skip rfl ?_
                        refine tl_skip rfl ?_
                        refine tl_v rfl (o_pick_f rfl (by conv => lhs; whnf)) ?_
                        refine tl_nil ?_
                        refine q_then_n ?_
                        refine tc_cond_f rfl ?_
                        refine tc_skip ?_
                        refine q_block_n (q_then_n ?_)
                        refine tc_pre (A' := A * Dev d22 _ * RDev d27 _) (Dr.sat (by repeat (first | with_reducible exact dr_refl | apply dr_keep | apply dr_drop))) ?_
                        refine tc_reg ?_
                        refine tl_v rfl (o_move (by conv => lhs; whnf)) ?_
                        refine tl_v rfl (by first | exact o_addI rfl rfl (by omega) | exact o_add rfl rfl) ?_
                        refine tl_v rfl (o_assign (by conv => lhs; whnf)) ?_
                        refine tl_nil ?_
                        refine q_then_n ?_
                        exact ⟨_, by omega, i + 1, _, by omega, rfl, rfl, rfl, rfl, rfl⟩
        · try simp only [decide_eq_true_eq, decide_eq_false_iff_not, Bool.not_eq_true', Bool.not_eq_false', Option.isNone_some, Option.isNone_none, Bool.not_true, Bool.not_false] at h
          refine tc_exit ?_
          refine q_then_e (q_then_e (q_block_x (q_then_n ?_)))
          refine tc_seq ?_
          refine tc_reg ?_
          refine tl_c rfl (o_call bd24 rfl (works_c)) ?_
          rintro _ _ ⟨rfl, rfl⟩
          refine tl_v rfl (o_assign (by conv => lhs; whnf)) ?_
          refine tl_nil ?_
          refine q_then_n ?_
          refine tc_ret ?_
          exact ⟨.bool true, A, res1 rfl rfl, Dr.sat (by repeat (first | with_reducible exact dr_refl | apply dr_keep | apply dr_drop)), rfl, rfl⟩
set_option maxRecDepth 20000 in
theorem SuperReads_L (F : SP) (cs : Array Value) (t : ImC) (h : PImg F cs.toList t) :
    Fn Try.prog 14 #[.agg cs] F (fun r B => r = .bool true ∧ B = F) := by
  obtain ⟨e, h1, h2, h3, h4, h5, h6, h7⟩ := h
  have ecs : cs = t.cells.toArray := by rw [← e]
  rw [ecs, img_cells h5.1]
  by_cases c : t.sz < 0 ∨ 4194368 < t.sz
  · exact SuperReads_n1 F h1 h2 (by omega) h6 h4 c
  · obtain ⟨n, hn⟩ : ∃ n : Nat, t.sz = (n : Int) := ⟨t.sz.toNat, by omega⟩
    rw [hn]
    by_cases hf : fitsB (n : Nat) = true
    · have hf' : 64 ≤ (n : Int) ∧ (n : Int) ≤ 4194304 ∧ (n : Int) % 64 = 0 := by unfold fitsB at hf; simpa using hf
      exact SuperReads_ok F h1 h2 (by omega) h6 h4 (k := n / 64) (by omega) (by omega) (by omega)
    · exact SuperReads_n2 F h1 h2 (by omega) h6 h4 (by omega) (by simpa using hf)
end Go.Vl
