/- A superblock's bytes. Conditions: none. -/
import Derived.Test.YtimckjnnjakcoaaS4
set_option linter.unusedVariables false
set_option linter.unusedSimpArgs false
namespace Go.Vl
open Go Go.Proofs


theorem splice_whole {vs l : List Value} (h : vs.length = l.length) : splice l 0 vs = vs := by
  rw [splice_eq (by omega)]; simp [h]
def magicB : List Nat := [86, 69, 76, 76, 85, 77, 48, 49]
def mbs (ns : List Nat) : List Nat := magicB ++ ns.flatMap (le 8)
def sbB (ns : List Nat) : List Nat := mbs ns ++ le 8 (crc 0 (mbs ns))
theorem mbs_nil : mbs [] = magicB := by unfold mbs; simp
theorem mbs_len (ns : List Nat) : (mbs ns).length = 8 + 8 * ns.length := by
  unfold mbs
  rw [List.length_append]
  induction ns with
  | nil => rfl
  | cons n ns ih => rw [List.flatMap_cons, List.length_append, le_length]; simp at ih ⊢; omega
theorem mbs_take {ns : List Nat} {i v : Nat} (h : ns[i]? = some v) : mbs (ns.take (i + 1)) = mbs (ns.take i) ++ le 8 v := by
  unfold mbs
  obtain ⟨hi, rfl⟩ := List.getElem?_eq_some_iff.1 h
  rw [List.take_succ_eq_append_getElem hi, List.flatMap_append, List.append_assoc]; simp
theorem mbs_lt (ns : List Nat) : ∀ x ∈ mbs ns, x < 256 := by
  intro x hx
  unfold mbs at hx
  rw [List.mem_append, List.mem_flatMap] at hx
  rcases hx with hx | ⟨v, _, hx⟩
  · simp only [magicB, List.mem_cons, List.not_mem_nil, or_false] at hx; omega
  · exact le_bytes 8 v x hx
theorem sbB_len {ns : List Nat} (h : ns.length = 6) : (sbB ns).length = 64 := by unfold sbB; rw [List.length_append, mbs_len, le_length, h]
theorem Sum_1 {A : SP} {a : Option Addr} {m c b : Nat} {xs : List Nat} {E : TypeId} (h1 : Rs A a (bys xs)) (e1 : xs.length = m) (hb : ∀ x ∈ xs, x < 256) (hl : m ≤ 1099511627776) :
    Fn Try.prog 132 #[.slice (some ⟨b, 0, none⟩) 1 1] (A * pt b (cl [.slice a m c] E)) (fun r B => r = .int .u32 ((crc 0 xs : Nat) : Int) ∧ A * pt b (cl [.slice a m c] E) = B) := by
  subst e1
  refine fn_rs (xs := [.slice a xs.length c]) rs_pt0 fun hr => ?_
  refine fn_rs h1.left fun h1 => ?_
  exact Sum_c (ls := [xs]) ⟨_, rfl, hr, fun i hi => by
    match i, hi with
    | 0, _ => exact ⟨a, c, rfl, h1⟩⟩ rfl (by intro l hl; simp at hl; subst hl; exact hb) (by intro l hm; simp at hm; subst hm; exact hl) (by decide)

attribute [local irreducible] crk crL crc Sl pt ro planT mbs

set_option maxRecDepth 20000 in
set_option maxHeartbeats 1000000 in
theorem laid_c {A : SP} {n0 n1 n2 n3 n4 : Nat} (hn : n0 < 9223372036854775808 ∧ n1 < 9223372036854775808 ∧ n2 < 9223372036854775808 ∧ n3 < 9223372036854775808 ∧ n4 < 9223372036854775808) :
    Fn Try.prog 83 #[.agg (ints [(n0 : Int), (n1 : Int), (n2 : Int), (n3 : Int), (n4 : Int)]).toArray] (A) (fun r B => r = .agg (bys (sbB [n0, n1, n2, n3, n4, 0])).toArray ∧ A = B) := by
  refine fn_enterW (args := [.agg (ints [(n0 : Int), (n1 : Int), (n2 : Int), (n3 : Int), (n4 : Int)]).toArray]) Try.func83 rfl Try.ntmps83 (by simp) ?_
  refine tc_seq ?_
  refine tc_reg ?_
  refine tl_x rfl (o_box rfl rfl) ?_
  rintro _ _ ⟨b1, rfl, rfl⟩
  refine tl_x rfl (o_alloc z139 rfl) ?_
  rintro _ _ ⟨b2, rfl, rfl⟩
  refine tl_nil ?_
  refine q_then_n ?_
  refine tc_seq ?_
  refine tc_reg ?_
  refine tl_x rfl (o_buildSliceL (k := 1) (vs := bys magicB) (l := bys magicB) Try.underlying28 sz5 z5 rfl rfl (by decide) (by decide) (by intro v hv; have := List.all_eq_true.1 (bys_all magicB) v hv; cases v <;> first | (simp [oneC] at this; done) | rfl) rfl) ?_
  rintro _ _ ⟨b6, rfl, rfl⟩
  refine tl_x rfl (o_cpyS Try.underlying28 Try.underlying5 rfl (by repeat (first | with_reducible exact upd_here | with_reducible exact upd_pt | apply upd_left))) ?_
  rintro _ _ ⟨rfl, rfl⟩
  refine tl_v rfl (o_assign (by conv => lhs; whnf)) ?_
  refine tl_nil ?_
  refine q_then_n ?_
  refine tc_seq ?_
  refine tc_seq ?_
  refine tc_reg ?_
  refine tl_v rfl (o_fieldAddr (o := 0) Try.underlying23 rfl rfl sz3 rfl) ?_
  refine tl_v rfl (by first | exact o_load p3 rfl (by repeat (first | with_reducible exact has_here | with_reducible exact has_pt | apply has_left)) rfl | exact o_loadC p3 rfl (by assumption)) ?_
  refine tl_v rfl (o_fieldAddr (o := 1) Try.underlying23 rfl rfl sz3 rfl) ?_
  refine tl_v rfl (by first | exact o_load p3 rfl (by repeat (first | with_reducible exact has_here | with_reducible exact has_pt | apply has_left)) rfl | exact o_loadC p3 rfl (by assumption)) ?_
  refine tl_v rfl (o_fieldAddr (o := 2) Try.underlying23 rfl rfl sz3 rfl) ?_
  refine tl_v rfl (by first | exact o_load p3 rfl (by repeat (first | with_reducible exact has_here | with_reducible exact has_pt | apply has_left)) rfl | exact o_loadC p3 rfl (by assumption)) ?_
  refine tl_v rfl (o_fieldAddr (o := 3) Try.underlying23 rfl rfl sz3 rfl) ?_
  refine tl_v rfl (by first | exact o_load p3 rfl (by repeat (first | with_reducible exact has_here | with_reducible exact has_pt | apply has_left)) rfl | exact o_loadC p3 rfl (by assumption)) ?_
  refine tl_v rfl (o_fieldAddr (o := 4) Try.underlying23 rfl rfl sz3 rfl) ?_
  refine tl_v rfl (by first | exact o_load p3 rfl (by repeat (first | with_reducible exact has_here | with_reducible exact has_pt | apply has_left)) rfl | exact o_loadC p3 rfl (by assumption)) ?_
  refine tl_v rfl (o_buildA (vs := ints [(n0 : Int), (n1 : Int), (n2 : Int), (n3 : Int), (n4 : Int)]) Try.underlying183 sz3 z183 rfl rfl rfl (by show 5 ≤ 6; decide) rfl) ?_
  refine tl_v rfl (o_move (by conv => lhs; whnf)) ?_
  refine tl_nil ?_
  refine q_then_n ?_
  refine tc_block ?_
  refine tc_loop (fun kk ρ BB => ∃ (i : Nat) (a3 : Option Addr) (c3 : Nat) (X : SP), (i ≤ 6) ∧ (Rs (A * pt b1 (cl (ints [(n0 : Int), (n1 : Int), (n2 : Int), (n3 : Int), (n4 : Int)]) 23) * pt b2 (cl (List.replicate 64 (.int .u8 0)) 139) * X) a3 (bys (mbs (([n0, n1, n2, n3, n4, 0] : List Nat).take i)))) ∧ kk = 6 - i ∧ ρ 3 = .slice a3 (8 + 8 * i) c3 ∧ ρ 19 = .int .i64 (i : Nat) ∧ ρ 2 = .pointer (some ⟨b2, 0, none⟩) ∧ ρ 18 = .agg (ints [(n0 : Int), (n1 : Int), (n2 : Int), (n3 : Int), (n4 : Int), 0]).toArray ∧ BB = A * pt b1 (cl (ints [(n0 : Int), (n1 : Int), (n2 : Int), (n3 : Int), (n4 : Int)]) 23) * pt b2 (cl (List.replicate 64 (.int .u8 0)) 139) * X) (m := 6 - (0)) ?_ ?_
  · exact ⟨0, some ⟨b6, 0, none⟩, 8, pt b6 (.cells (bys magicB).toArray 5 (8, 9)), by omega, by rw [List.take_zero, mbs_nil]; exact rs_mk, rfl, rfl, rfl, rfl, rfl, rfl⟩
  · intro k ρ B hI
    obtain ⟨i, a3, c3, X, hp0, hp1, hkk1, hE3, hE19, hE2, hE18, rfl⟩ := hI
    refine tc_env (d := 3) hE3 ?_
    refine tc_env (d := 19) hE19 ?_
    refine tc_env (d := 2) hE2 ?_
    refine tc_env (d := 18) hE18 ?_
    clear hE3 hE19 hE2 hE18
    refine tc_seq ?_
    refine tc_reg ?_
    refine tl_v rfl (o_lss rfl rfl) ?_
    refine tl_nil ?_
    refine q_then_n ?_
    refine tc_seq ?_
    refine tc_cond rfl (fun h => ?_) (fun h => ?_)
    · have hi : i < 6 := by simp at h; omega
      obtain ⟨v, hv1, hv2, hv3⟩ : ∃ v : Nat, (ints [(n0 : Int), (n1 : Int), (n2 : Int), (n3 : Int), (n4 : Int), 0])[i]? = some (.int .i64 (v : Int)) ∧ ([n0, n1, n2, n3, n4, 0] : List Nat)[i]? = some v ∧ v < 9223372036854775808 := by
        match i, hi with
        | 0, _ => exact ⟨n0, rfl, rfl, hn.1⟩
        | 1, _ => exact ⟨n1, rfl, rfl, hn.2.1⟩
        | 2, _ => exact ⟨n2, rfl, rfl, hn.2.2.1⟩
        | 3, _ => exact ⟨n3, rfl, rfl, hn.2.2.2.1⟩
        | 4, _ => exact ⟨n4, rfl, rfl, hn.2.2.2.2⟩
        | 5, _ => exact ⟨0, rfl, rfl, by decide⟩
      have hml : (mbs (([n0, n1, n2, n3, n4, 0] : List Nat).take i)).length = 8 + 8 * i := by rw [mbs_len, List.length_take]; simp; omega
      refine tc_skip ?_
      refine q_then_n ?_
      refine tc_seq ?_
      refine tc_block ?_
      refine tc_seq ?_
      refine tc_reg ?_
      refine tl_v rfl (o_index1 Try.underlying183 sz3 p3 rfl rfl (by omega) (by omega) hv1) ?_
      refine tl_v rfl (o_assign (by conv => lhs; whnf)) ?_
      refine tl_nil ?_
      refine q_then_n ?_
      refine tc_reg ?_
      refine tl_v rfl (o_move (by conv => lhs; whnf)) ?_
      refine tl_v rfl (o_move (by conv => lhs; whnf)) ?_
      refine tl_v rfl (by first | exact o_conv64 Try.underlying3 Try.underlying53 rfl | exact o_conv Try.underlying3 Try.underlying53 rfl) ?_
      refine tl_env (d := 24) (v := .int .u64 ((v : Nat) : Int)) (congrArg (fun z : Nat => Value.int .u64 (z : Int)) (Nat.mod_eq_of_lt (by omega))) ?_
      refine tl_c rfl (o_call bd99 rfl (Put64_c (hr := hp1) (hm := hml) (v := v))) ?_
      rintro _ _ ⟨a25, c25, rfl, hc25, rfl⟩
      refine tl_v rfl (o_assign (by conv => lhs; whnf)) ?_
      refine tl_nil ?_
      refine q_block_n (q_then_n ?_)
      refine tc_reg ?_
      refine tl_v rfl (by first | exact o_addI rfl rfl (by omega) | exact o_add rfl rfl) ?_
      refine tl_v rfl (o_move (by conv => lhs; whnf)) ?_
      refine tl_nil ?_
      refine q_then_n ?_
      exact ⟨_, by omega, i + 1, _, _, _, by omega, by rw [mbs_take hv2, ← star_assoc]; exact rs_sl, rfl, rfl, rfl, rfl, rfl, (star_assoc _ _ _)⟩
    · obtain rfl : i = 6 := by simp at h; omega
      rw [show ([n0, n1, n2, n3, n4, 0] : List Nat).take 6 = [n0, n1, n2, n3, n4, 0] from rfl] at hp1
      have hml : (mbs [n0, n1, n2, n3, n4, 0]).length = 56 := mbs_len _
      have hmb := mbs_lt [n0, n1, n2, n3, n4, 0]
      have hcc := crc_lt (s := 0) (by decide) hmb
      refine tc_exit ?_
      refine q_then_e (q_then_e (q_block_x (q_then_n ?_)))
      refine tc_seq ?_
      refine tc_reg ?_
      refine tl_v rfl (o_move (by conv => lhs; whnf)) ?_
      refine tl_v rfl (o_move (by conv => lhs; whnf)) ?_
      refine tl_x rfl (o_buildSlice1 Try.underlying33 sz28 z28 (by conv => lhs; whnf) rfl) ?_
      rintro _ _ ⟨b29, rfl, rfl⟩
      refine tl_c rfl (o_call bd132 rfl (Sum_1 hp1 hml hmb (by decide))) ?_
      rintro _ _ ⟨rfl, rfl⟩
      refine tl_v rfl (by first | exact o_conv64 Try.underlying114 Try.underlying53 rfl | exact o_conv Try.underlying114 Try.underlying53 rfl) ?_
      refine tl_env (d := 31) (v := .int .u64 ((crc 0 (mbs [n0, n1, n2, n3, n4, 0]) : Nat) : Int)) (congrArg (fun z : Nat => Value.int .u64 (z : Int)) (Nat.mod_eq_of_lt (by omega))) ?_
      refine tl_c rfl (o_call bd99 rfl (Put64_c (hr := hp1.left) (hm := hml))) ?_
      rintro _ _ ⟨a32, c32, rfl, hc32, rfl⟩
      refine tl_have (fun g w h => nn_sl (by decide) g w h (by omega)) fun ⟨b32, o32, e32⟩ => ?_
      subst e32
      refine tl_v rfl (o_s2a (m := 64) Try.underlying139 rfl (by decide)) ?_
      refine tl_v rfl (o_ldPN (a := some ⟨b32, o32, none⟩) (i := 0) (vs := bys (sbB [n0, n1, n2, n3, n4, 0])) a139 sz139 rfl rs_sl (by rw [List.drop_zero]; exact List.take_of_length_le (by rw [bys_length, ← sbB]; rw [sbB_len rfl]; decide)) (by rw [bys_length, sbB_len rfl]) (by decide)) ?_
      refine tl_u rfl (o_stUN (l' := bys (sbB [n0, n1, n2, n3, n4, 0])) rfl (by repeat (first | with_reducible exact upd_here | with_reducible exact upd_pt | apply upd_left)) sz139 rfl (by rw [bys_length, sbB_len rfl]) (bys_all _) (by simp) (splice_whole (by rw [bys_length, sbB_len rfl, List.length_replicate]))) ?_
      refine tl_nil ?_
      refine q_then_n ?_
      refine tc_ret ?_
      exact ⟨.agg (bys (sbB [n0, n1, n2, n3, n4, 0])).toArray, A, resA1 rfl (rv_cell a139 sz139 rfl (by repeat (first | with_reducible exact has_here | with_reducible exact has_pt | apply has_left)) (by rw [bys_length, sbB_len rfl]; decide) (by rw [List.drop_zero]; exact List.take_of_length_le (by rw [bys_length, sbB_len rfl]; decide))), Dr.sat (by repeat (first | with_reducible exact dr_refl | apply dr_keep | apply dr_drop)), rfl, rfl⟩

end Go.Vl
