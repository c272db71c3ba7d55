/- Walks of package pmem: a content's bytes; a content more. Conditions: none. -/
import Derived.Test.YtimckjnnjakcoaaPmem4
set_option linter.unusedVariables false
set_option linter.unusedSimpArgs false
namespace Go.Vl
open Go Go.Proofs


/-- The bytes of words. -/
def lb (s : List Nat) : List Nat := s.flatMap (le 8)
theorem lb_length (s : List Nat) : (lb s).length = s.length * 8 := by
  induction s with
  | nil => rfl
  | cons x s ih => simp only [lb, List.flatMap_cons, List.length_append, le_length, List.length_cons] at *; omega
theorem lb_append (a b : List Nat) : lb (a ++ b) = lb a ++ lb b := by simp [lb]
theorem lb_take {s : List Nat} {i : Nat} (h : i < s.length) : lb (s.take (i + 1)) = lb (s.take i) ++ le 8 s[i] := by
  rw [List.take_succ_eq_append_getElem h, lb_append]; simp [lb]
theorem lb_zero : lb (List.replicate 8 0) = List.replicate 64 0 := by decide
theorem lb_bytes (s : List Nat) : ∀ x ∈ lb s, x < 256 := by
  intro x hx
  simp only [lb, List.mem_flatMap] at hx
  obtain ⟨y, _, hy⟩ := hx
  exact le_bytes 8 y x hy
theorem wds_eq (s : List Nat) : wds s = (s.map fun n : Nat => (n : Int)).map (Value.int .u64) := by rw [wds, List.map_map]; rfl
theorem map_inj {s t : List Nat} : (s.map fun n : Nat => (n : Int)) = (t.map fun n : Nat => (n : Int)) ↔ s = t := by
  constructor
  · intro h
    exact (List.map_inj_right (fun x y h => by omega)).1 h
  · rintro rfl; rfl
section
variable {P : Program} {n : Nat} {ρ : Env} {dst : Option Nat} {ty : TypeId} {pos : String} {after : Array Edge} {gd : Option (Nat × Bool)} {A : SP}
theorem o_eqarrW {t t' e : TypeId} {x y : Operand} {len : Nat} {xs ys : List Nat} (hu : P.underlying t = some (.array len e)) (hk : szE P e = some 1) (he : P.underlying e = some (.int .u64)) (hp : plainE P e = true)
    (hge : P.eqGuardType P.depth t = false) (hx : ev n ρ x = .agg (wds xs).toArray) (hy : ev n ρ y = .agg (wds ys).toArray) (h1 : xs.length = len) (h2 : ys.length = len) :
    OpV P n ρ A ⟨dst, .binOp .eql t x y t', ty, pos, after, gd⟩ (.bool (decide (xs = ys))) := by
  have := o_eqarr (A := A) (dst := dst) (ty := ty) (pos := pos) (after := after) (gd := gd) (t' := t') hu hk he hp hge (by rw [hx, wds_eq]) (by rw [hy, wds_eq]) (by rw [List.length_map, h1]) (by rw [List.length_map, h2])
  rwa [show decide ((xs.map fun n : Nat => (n : Int)) = (ys.map fun n : Nat => (n : Int))) = decide (xs = ys) from by simp only [map_inj]] at this
end
theorem cells_all {A : SP} {b k : Nat} {l : List Value} {E : TypeId} (h : Has A b (cl l E)) (hk : l.length = k) : Cells A b 0 l := cells_of_has (k := k) h (List.take_of_length_le (by rw [List.drop_zero]; omega))

theorem bytes_f (A : SP) (s : List Nat) (hs8 : s.length = 8) (hw : ∀ x ∈ s, x < 18446744073709551616) :
    Fn Try.prog 90 #[.agg (wds s).toArray] (A) (fun r B => ∃ u, r = u ∧ B = A * Sl 1 u 64 (bys (lb s))) := by
  refine fn_enterW (args := [.agg (wds s).toArray]) Try.func90 rfl Try.ntmps90 (by simp) ?_
  have hwl : (wds s).length = 8 := by rw [wds_length]; exact hs8
  refine tc_seq ?_
  refine tc_reg ?_
  refine tl_x rfl (o_box rfl rfl) ?_
  rintro _ _ ⟨b1, rfl, rfl⟩
  refine tl_v rfl (o_assign rfl) ?_
  refine tl_nil ?_
  refine q_then_n ?_
  refine tc_seq ?_
  refine tc_seq ?_
  refine tc_reg ?_
  refine tl_v rfl (o_loadNC a147 sz147 rfl hwl (cells_all (by repeat (first | exact has_here | exact has_pt | apply has_left)) hwl)) ?_
  refine tl_v rfl (o_buildA (vs := []) Try.underlying147 sz53 z147 rfl rfl rfl (Nat.zero_le _) rfl) ?_
  refine tl_v rfl (o_eqarrW (xs := s) (ys := List.replicate 8 0) Try.underlying147 sz53 Try.underlying53 p53 (by kernel_rfl) rfl rfl hs8 rfl) ?_
  refine tl_nil ?_
  refine q_then_n ?_
  refine tc_cond rfl (fun h => ?_) (fun h => ?_)
  · try simp only [decide_eq_true_eq, decide_eq_false_iff_not, Bool.not_eq_true', Bool.not_eq_false', Option.isNone_some, Option.isNone_none, Bool.not_true, Bool.not_false] at h
    refine tc_seq ?_
    refine tc_reg ?_
    refine tl_x rfl (o_makeSliceI Try.underlying28 sz5 by5 z5 rfl rfl rfl (by omega) (by omega)) ?_
    rintro _ _ ⟨b9, rfl, rfl⟩
    refine tl_v rfl (o_assign rfl) ?_
    refine tl_nil ?_
    refine q_then_n ?_
    refine tc_ret ?_
    refine q_then_r ?_
    exact ⟨_, _, res1 rfl rfl, fun _ _ hh => (sl_new (k := 1) (n := 64) (cap := 64) hh (by omega) (by simp) (List.take_of_length_le (by simp))).drop2, _, rfl, by rw [h, lb_zero]; rfl⟩
  · try simp only [decide_eq_true_eq, decide_eq_false_iff_not, Bool.not_eq_true', Bool.not_eq_false', Option.isNone_some, Option.isNone_none, Bool.not_true, Bool.not_false] at h
    refine tc_skip ?_
    refine q_then_n ?_
    refine tc_seq ?_
    refine tc_reg ?_
    refine tl_v rfl (o_assign rfl) ?_
    refine tl_nil ?_
    refine q_then_n ?_
    refine tc_seq ?_
    refine tc_seq ?_
    refine tc_reg ?_
    refine tl_v rfl (o_loadNC a147 sz147 rfl hwl (cells_all (by repeat (first | exact has_here | exact has_pt | apply has_left)) hwl)) ?_
    refine tl_pre (fun _ _ h => sl_nil (k := 1) h) ?_
    refine tl_v rfl (o_move rfl) ?_
    refine tl_nil ?_
    refine q_then_n ?_
    refine tc_block ?_
    refine tc_loop (fun k ρ B => ∃ (i : Nat) (v : Value), i ≤ 8 ∧ k = 8 - i ∧ ρ 3 = v ∧ ρ 10 = .agg (wds s).toArray ∧ ρ 11 = .int .i64 i ∧ B = A * pt b1 (cl (wds s) 147) * Sl 1 v (lb (s.take i)).length (bys (lb (s.take i)))) (m := 8) ?_ ?_
    · exact ⟨0, .slice none 0 0, by omega, rfl, rfl, rfl, rfl, rfl⟩
    · intro k ρ B hI
      obtain ⟨i, v, hi, rfl, h3, h10, h11, rfl⟩ := hI
      refine tc_env (d := 3) h3 ?_
      refine tc_env (d := 10) h10 ?_
      refine tc_env (d := 11) h11 ?_
      refine tc_seq ?_
      refine tc_reg ?_
      refine tl_v rfl (o_lss rfl rfl) ?_
      refine tl_nil ?_
      refine q_then_n ?_
      refine tc_seq ?_
      refine tc_cond rfl (fun h => ?_) (fun h => ?_)
      · try simp only [decide_eq_true_eq, decide_eq_false_iff_not, Bool.not_eq_true', Bool.not_eq_false', Option.isNone_some, Option.isNone_none, Bool.not_true, Bool.not_false] at h
        refine tc_skip ?_
        refine q_then_n ?_
        refine tc_seq ?_
        refine tc_block ?_
        refine tc_seq ?_
        refine tc_reg ?_
        refine tl_v rfl (o_index1 (cs := wds s) Try.underlying147 sz53 p53 rfl rfl (by omega) (by omega) (wds_at (by omega))) ?_
        refine tl_v rfl (o_assign rfl) ?_
        refine tl_nil ?_
        refine q_then_n ?_
        refine tc_reg ?_
        refine tl_v rfl (o_move rfl) ?_
        refine tl_v rfl (o_move rfl) ?_
        refine tl_have (fun _ _ h => sl_have h) fun ⟨a, c, hv, _, _, hrd⟩ => ?_
        subst hv
        have hi8 : i < s.length := by omega
        refine tl_c rfl (o_call bd99 rfl (Put64_f _ a c (lb (s.take i)) s[i] hrd (hw _ (List.getElem_mem _)) (by rw [lb_length, List.length_take]; omega))) ?_
        rintro u16 _ ⟨_, rfl, rfl⟩
        refine tl_pre (fun _ _ h => h.drop2) ?_
        refine tl_v rfl (o_assign rfl) ?_
        refine tl_nil ?_
        refine q_block_n (q_then_n ?_)
        refine tc_reg ?_
        refine tl_v rfl (by first | exact o_addI rfl rfl (by omega) | exact o_add rfl rfl) ?_
        refine tl_v rfl (o_move rfl) ?_
        refine tl_nil ?_
        refine q_then_n ?_
        exact ⟨_, by omega, i + 1, u16, by omega, rfl, rfl, rfl, rfl, by rw [lb_take (by omega), List.length_append, le_length]⟩
      · try simp only [decide_eq_true_eq, decide_eq_false_iff_not, Bool.not_eq_true', Bool.not_eq_false', Option.isNone_some, Option.isNone_none, Bool.not_true, Bool.not_false] at h
        refine tc_exit ?_
        refine q_then_e (q_then_e (q_block_x (q_then_n ?_)))
        refine tc_seq ?_
        refine tc_reg ?_
        refine tl_v rfl (o_move rfl) ?_
        refine tl_v rfl (o_assign rfl) ?_
        refine tl_nil ?_
        refine q_then_n ?_
        refine tc_ret ?_
        obtain rfl : i = 8 := by omega
        have e : s.take 8 = s := List.take_of_length_le (by omega)
        rw [e, lb_length, hs8]
        exact ⟨v, _, res1 rfl rfl, fun _ _ h => h.drop2, v, rfl, rfl⟩

end Go.Vl
