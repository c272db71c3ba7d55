/- super.Read of a device that is on, of a size that there is. Conditions: none. -/
import Derived.Test.YtimckjnnjakcoaaU1
set_option linter.unusedVariables false
set_option linter.unusedSimpArgs false
namespace Go.Vl
open Go Go.Proofs


theorem bys_eq (s : List Nat) : bys s = (s.map fun n : Nat => (n : Int)).map (Value.int .u8) := by rw [bys, List.map_map]; rfl
section
variable {P : Program} {n : Nat} {ρ : Env} {dst : Option Nat} {ty : TypeId} {pos : String} {after : Array Edge} {gd : Option (Nat × Bool)} {A : SP}
theorem o_nearrB {t t' e : TypeId} {x y : Operand} {len : Nat} {xs ys : List Nat} (hu : P.underlying t = some (.array len e)) (hk : szE P e = some 1) (he : P.underlying e = some (.int .u8)) (hp : plainE P e = true)
    (hge : P.eqGuardType P.depth t = false) (hx : ev n ρ x = .agg (bys xs).toArray) (hy : ev n ρ y = .agg (bys ys).toArray) (h1 : xs.length = len) (h2 : ys.length = len) :
    OpV P n ρ A ⟨dst, .binOp .neq t x y t', ty, pos, after, gd⟩ (.bool (!decide (xs = ys))) := by
  have := o_nearr (A := A) (dst := dst) (ty := ty) (pos := pos) (after := after) (gd := gd) (t' := t') hu hk he hp hge (by rw [hx, bys_eq]) (by rw [hy, bys_eq]) (by rw [List.length_map, h1]) (by rw [List.length_map, h2])
  rwa [show decide ((xs.map fun n : Nat => (n : Int)) = (ys.map fun n : Nat => (n : Int))) = decide (xs = ys) from by simp only [map_inj]] at this
end
def rdT (n : Nat) (I : List Nat) : List Int × Int := if I.take 64 = sbB [n, 128, 32768, 32896, (n - 32896) / 256, 0] then ([(n : Int), ((128 : Nat) : Int), ((32768 : Nat) : Int), ((32896 : Nat) : Int), (((n - 32896) / 256 : Nat) : Int)], 0) else ([0, 0, 0, 0, 0], 100)
theorem rdT_t {n : Nat} {I : List Nat} (h : I.take 64 = sbB [n, 128, 32768, 32896, (n - 32896) / 256, 0]) : rdT n I = ([(n : Int), ((128 : Nat) : Int), ((32768 : Nat) : Int), ((32896 : Nat) : Int), (((n - 32896) / 256 : Nat) : Int)], 0) := if_pos h
theorem rdT_f {n : Nat} {I : List Nat} (h : I.take 64 ≠ sbB [n, 128, 32768, 32896, (n - 32896) / 256, 0]) : rdT n I = ([0, 0, 0, 0, 0], 100) := if_neg h

attribute [local irreducible] crk crL crc Sl pt ro mbs sbB planT Dev imgS

set_option maxRecDepth 20000 in
set_option maxHeartbeats 1000000 in
theorem Read_ok {A R : SP} {C : SP → SP} {d : Nat} {s : DevS} (hc : Ct A (Dev d s) R C := by repeat (first | with_reducible exact ct_here | apply ct_left)) {n : Nat} (hoff : s.off = false) (hlen : s.ls.length * 64 = n) (hn : 36992 ≤ n ∧ n ≤ 4194304 ∧ n % 64 = 0) (hil : (imgS s).length = n) :
    Fn Try.prog 48 #[.pointer (some ⟨d, 0, none⟩)] (A) (fun r B => r = .tuple #[.agg (ints (rdT n (imgS s)).1).toArray, .int .i64 (rdT n (imgS s)).2] ∧ A = B) := by
  refine fn_enterW (args := [.pointer (some ⟨d, 0, none⟩)]) Try.func48 rfl Try.ntmps48 (by simp) ?_
  have hst : stE s = 0 := by unfold stE; rw [hoff]; rfl
  obtain ⟨rfl, hC⟩ := hc
  refine tc_seq ?_
  refine tc_reg ?_
  refine tl_x rfl (o_alloc z23 rfl) ?_
  rintro _ _ ⟨b2, rfl, rfl⟩
  refine tl_v rfl (o_assign (by conv => lhs; whnf)) ?_
  refine tl_nil ?_
  refine q_then_n ?_
  refine tc_seq ?_
  refine tc_seq ?_
  refine tc_reg ?_
  refine tl_v rfl (o_move (by conv => lhs; whnf)) ?_
  refine tl_c rfl (o_call bd102 rfl (state_c (s := s))) ?_
  rintro _ _ ⟨rfl, rfl⟩
  refine tl_env (d := 9) (v := .int .i64 0) (congrArg (Value.int .i64) hst) ?_
  refine tl_v rfl (o_assign (by conv => lhs; whnf)) ?_
  refine tl_nil ?_
  refine q_then_n ?_
  refine tc_seq ?_
  refine tc_reg ?_
  refine tl_v rfl (o_move (by conv => lhs; whnf)) ?_
  refine tl_v rfl (o_nei rfl rfl) ?_
  refine tl_nil ?_
  refine q_then_n ?_
  refine tc_cond rfl (fun h => ?_) (fun h => ?_)
  · exfalso; simp at h
  · try simp only [decide_eq_true_eq, decide_eq_false_iff_not, Bool.not_eq_true', Bool.not_eq_false', Option.isNone_some, Option.isNone_none, Bool.not_true, Bool.not_false] at h
    refine tc_skip ?_
    refine q_then_n ?_
    refine tc_seq ?_
    refine tc_reg ?_
    refine tl_v rfl (o_move (by conv => lhs; whnf)) ?_
    refine tl_c rfl (o_call bd94 rfl (Size_c (s := s))) ?_
    rintro _ _ ⟨rfl, rfl⟩
    refine tl_env (d := 16) (v := .int .i64 (n : Int)) (congrArg (Value.int .i64) (by omega)) ?_
    refine tl_c rfl (o_call bd18 rfl (Plan_ok hn)) ?_
    rintro _ _ ⟨rfl, rfl⟩
    refine tl_v rfl (o_move (by conv => lhs; whnf)) ?_
    refine tl_v rfl (o_extract rfl rfl) ?_
    refine tl_v rfl (o_extract rfl rfl) ?_
    refine tl_x rfl (o_alloc z23 rfl) ?_
    rintro _ _ ⟨b5, rfl, rfl⟩
    refine tl_u rfl (o_stUN (l' := ints [(n : Int), ((128 : Nat) : Int), ((32768 : Nat) : Int), ((32896 : Nat) : Int), (((n - 32896) / 256 : Nat) : Int)]) rfl (by repeat (first | with_reducible exact upd_here | with_reducible exact upd_pt | apply upd_left)) sz23 rfl rfl rfl (by simp) rfl) ?_
    refine tl_v rfl (o_assign (by conv => lhs; whnf)) ?_
    refine tl_nil ?_
    refine q_then_n ?_
    refine tc_seq ?_
    refine tc_seq ?_
    refine tc_reg ?_
    refine tl_v rfl (o_move (by conv => lhs; whnf)) ?_
    refine tl_v rfl (o_nei rfl rfl) ?_
    refine tl_nil ?_
    refine q_then_n ?_
    refine tc_cond rfl (fun h => ?_) (fun h => ?_)
    · exfalso; simp at h
    · try simp only [decide_eq_true_eq, decide_eq_false_iff_not, Bool.not_eq_true', Bool.not_eq_false', Option.isNone_some, Option.isNone_none, Bool.not_true, Bool.not_false] at h
      refine tc_skip ?_
      refine q_then_n ?_
      refine tc_seq ?_
      refine tc_reg ?_
      refine tl_v rfl (o_move (by conv => lhs; whnf)) ?_
      refine tl_c rfl (o_call bd27 rfl (Load_c (s := s) (p := 0) (m := 64) (hoff := hoff) (hpm := by omega))) ?_
      rintro _ _ ⟨a25, c25, rfl, hc25, rfl⟩
      refine tl_have (fun g w h => nn_sl (by decide) g w h (by decide)) fun ⟨b25, o25, e25⟩ => ?_
      subst e25
      have hI : ((imgS s).take 64).length = 64 := by rw [List.length_take]; omega
      refine tl_v rfl (o_move (by conv => lhs; whnf)) ?_
      refine tl_v rfl (o_extract rfl rfl) ?_
      refine tl_v rfl (o_extract rfl rfl) ?_
      refine tl_v rfl (o_assign (by conv => lhs; whnf)) ?_
      refine tl_v rfl (o_assign (by conv => lhs; whnf)) ?_
      refine tl_nil ?_
      refine q_then_n ?_
      refine tc_seq ?_
      refine tc_seq ?_
      refine tc_regh mo dr_refl ?_
      show TH _ _ _ _ _ 10 #[false, false, false, false, false, false, false, false, false, false] _ _
      refine th_take (i := 0) (listed' := #[true, false, false, false, false, false, false, false, false, false]) rfl (by kernel_rfl) (by kernel_rfl) (by kernel_rfl) rfl rfl (o_move (by conv => lhs; whnf)) ?_
      refine th_take (i := 1) (listed' := #[true, true, false, false, false, false, false, false, false, false]) rfl (by kernel_rfl) (by kernel_rfl) (by kernel_rfl) rfl rfl (o_nei rfl rfl) ?_
      refine th_take (i := 2) (listed' := #[true, true, true, false, false, false, false, false, false, false]) rfl (by kernel_rfl) (by kernel_rfl) (by kernel_rfl) rfl rfl (o_move (by conv => lhs; whnf)) ?_
      refine th_bool (d := 30) rfl (fun h => ?_) (fun h => ?_)
      · (exfalso; first | (revert h; simp; done) | (simp at h; done) | (revert h; simp; omega) | (simp at h; omega) | omega)
      · try simp only [decide_eq_true_eq, decide_eq_false_iff_not, Bool.not_eq_true', Bool.not_eq_false', Option.isNone_some, Option.isNone_none, Bool.not_true, Bool.not_false] at h
        refine th_take (i := 3) (listed' := #[true, true, true, true, false, false, false, false, false, false]) rfl (by kernel_rfl) (by kernel_rfl) (by kernel_rfl) rfl rfl (o_move (by conv => lhs; whnf)) ?_
        refine th_take (i := 4) (listed' := #[true, true, true, true, true, false, false, false, false, false]) rfl (by kernel_rfl) (by kernel_rfl) (by kernel_rfl) rfl rfl (o_s2a (m := 64) Try.underlying139 rfl (by decide)) ?_
        refine th_take (i := 5) (listed' := #[true, true, true, true, true, true, false, false, false, false]) rfl (by kernel_rfl) (by kernel_rfl) (by kernel_rfl) rfl rfl (o_ldPN (a := some ⟨b25, o25, none⟩) (i := 0) (vs := bys ((imgS s).take 64)) a139 sz139 rfl rs_sl (by rw [List.drop_zero, List.drop_zero]; exact List.take_of_length_le (by rw [bys_length, hI]; decide)) (by rw [bys_length, hI]) (by decide)) ?_
        refine th_take (i := 6) (listed' := #[true, true, true, true, true, true, true, false, false, false]) rfl (by kernel_rfl) (by kernel_rfl) (by kernel_rfl) rfl rfl (o_loadN (vs := ints [(n : Int), ((128 : Nat) : Int), ((32768 : Nat) : Int), ((32896 : Nat) : Int), (((n - 32896) / 256 : Nat) : Int)]) a23 sz23 rfl (by repeat (first | with_reducible exact has_here | with_reducible exact has_pt | apply has_left)) (by show 5 ≤ 5; decide) rfl) ?_
        refine th_one (i := 7) (by kernel_rfl) ?_
        refine oh_c (i := 7) (listed' := #[true, true, true, true, true, true, true, true, false, false]) rfl rfl rfl (o_call bd83 rfl (laid_c (by omega))) ?_
        rintro _ _ ⟨rfl, rfl⟩
        refine ⟨by repeat (first | with_reducible exact dr_refl | apply dr_keep | apply dr_drop), ?_⟩
        refine th_take (i := 8) (listed' := #[true, true, true, true, true, true, true, true, true, false]) rfl (by kernel_rfl) (by kernel_rfl) (by kernel_rfl) rfl rfl (o_nearrB (xs := (imgS s).take 64) (ys := sbB [n, 128, 32768, 32896, (n - 32896) / 256, 0]) Try.underlying139 sz5 Try.underlying5 p5 (by kernel_rfl) rfl rfl hI (sbB_len rfl)) ?_
        refine th_take (i := 9) (listed' := #[true, true, true, true, true, true, true, true, true, true]) rfl (by kernel_rfl) (by kernel_rfl) (by kernel_rfl) rfl rfl (o_pick_f rfl (by conv => lhs; whnf)) ?_
        refine th_done (by kernel_rfl) ?_
        refine q_then_n ?_
        refine tc_cond rfl (fun h => ?_) (fun h => ?_)
        · try simp only [decide_eq_true_eq, decide_eq_false_iff_not, Bool.not_eq_true', Bool.not_eq_false', Option.isNone_some, Option.isNone_none, Bool.not_true, Bool.not_false] at h
          refine tc_seq ?_
          refine tc_reg ?_
          refine tl_v rfl (o_bS (l := ints [0, 0, 0, 0, 0]) pv_nil Try.underlying23 z23 (pl23 Try.underlying23) rfl) ?_
          refine tl_u rfl (o_stUN (l' := ints [0, 0, 0, 0, 0]) rfl (by repeat (first | with_reducible exact upd_here | with_reducible exact upd_pt | apply upd_left)) sz23 rfl rfl rfl (by simp) rfl) ?_
          refine tl_v rfl (o_assign (by conv => lhs; whnf)) ?_
          refine tl_nil ?_
          refine q_then_n ?_
          refine tc_ret ?_
          refine q_then_r ?_
          first
          | (have hp := rdT_t (n := n) (I := imgS s) (by simpa using h); rw [hp]; exact ⟨.tuple #[.agg (ints [(n : Int), ((128 : Nat) : Int), ((32768 : Nat) : Int), ((32896 : Nat) : Int), (((n - 32896) / 256 : Nat) : Int)]).toArray, .int .i64 0], R * Dev d s, resA2 rfl (rv_cell a23 sz23 rfl (by repeat (first | with_reducible exact has_here | with_reducible exact has_pt | apply has_left)) (by show 5 ≤ 5; decide) rfl) (rv_tmp rfl), Dr.sat (by repeat (first | with_reducible exact dr_refl | apply dr_keep | apply dr_drop)), rfl, rfl⟩)
          | (have hp := rdT_f (n := n) (I := imgS s) (by simpa using h); rw [hp]; exact ⟨.tuple #[.agg (ints [0, 0, 0, 0, 0]).toArray, .int .i64 100], R * Dev d s, resA2 rfl (rv_cell a23 sz23 rfl (by repeat (first | with_reducible exact has_here | with_reducible exact has_pt | apply has_left)) (by show 5 ≤ 5; decide) rfl) (rv_tmp rfl), Dr.sat (by repeat (first | with_reducible exact dr_refl | apply dr_keep | apply dr_drop)), rfl, rfl⟩)
        · try simp only [decide_eq_true_eq, decide_eq_false_iff_not, Bool.not_eq_true', Bool.not_eq_false', Option.isNone_some, Option.isNone_none, Bool.not_true, Bool.not_false] at h
          refine tc_skip ?_
          refine q_then_n ?_
          refine tc_seq ?_
          refine tc_reg ?_
          refine tl_v rfl (o_loadN (vs := ints [(n : Int), ((128 : Nat) : Int), ((32768 : Nat) : Int), ((32896 : Nat) : Int), (((n - 32896) / 256 : Nat) : Int)]) a23 sz23 rfl (by repeat (first | with_reducible exact has_here | with_reducible exact has_pt | apply has_left)) (by show 5 ≤ 5; decide) rfl) ?_
          refine tl_u rfl (o_stUN (l' := ints [(n : Int), ((128 : Nat) : Int), ((32768 : Nat) : Int), ((32896 : Nat) : Int), (((n - 32896) / 256 : Nat) : Int)]) rfl (by repeat (first | with_reducible exact upd_here | with_reducible exact upd_pt | apply upd_left)) sz23 rfl rfl rfl (by simp) rfl) ?_
          refine tl_v rfl (o_assign (by conv => lhs; whnf)) ?_
          refine tl_nil ?_
          refine q_then_n ?_
          refine tc_ret ?_
          first
          | (have hp := rdT_t (n := n) (I := imgS s) (by simpa using h); rw [hp]; exact ⟨.tuple #[.agg (ints [(n : Int), ((128 : Nat) : Int), ((32768 : Nat) : Int), ((32896 : Nat) : Int), (((n - 32896) / 256 : Nat) : Int)]).toArray, .int .i64 0], R * Dev d s, resA2 rfl (rv_cell a23 sz23 rfl (by repeat (first | with_reducible exact has_here | with_reducible exact has_pt | apply has_left)) (by show 5 ≤ 5; decide) rfl) (rv_tmp rfl), Dr.sat (by repeat (first | with_reducible exact dr_refl | apply dr_keep | apply dr_drop)), rfl, rfl⟩)
          | (have hp := rdT_f (n := n) (I := imgS s) (by simpa using h); rw [hp]; exact ⟨.tuple #[.agg (ints [0, 0, 0, 0, 0]).toArray, .int .i64 100], R * Dev d s, resA2 rfl (rv_cell a23 sz23 rfl (by repeat (first | with_reducible exact has_here | with_reducible exact has_pt | apply has_left)) (by show 5 ≤ 5; decide) rfl) (rv_tmp rfl), Dr.sat (by repeat (first | with_reducible exact dr_refl | apply dr_keep | apply dr_drop)), rfl, rfl⟩)

end Go.Vl
