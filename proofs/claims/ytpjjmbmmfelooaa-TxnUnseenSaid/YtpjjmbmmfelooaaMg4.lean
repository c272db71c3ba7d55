/- What the row rests on, part 4: a calculus of assertions, walks of functions over it, and plain laws. Conditions: none. -/
import Derived.Deep.QuietTactic
import Derived.BigQuiet
import Derived.WalkKit
import Derived.Test.YtpjjmbmmfelooaaProg
import Derived.OrdersHeld
import Derived.Laws.BytesArg
import Derived.RangeFuncRecord
import Derived.TacticsIn
import Derived.Deep.Slices
import Derived.OpenShut
import Derived.ChangeArms
import Derived.SizedLaws
import Derived.ChangeSame
import Derived.Test.YtpjjmbmmfelooaaRows
import Derived.Sort.QuietThIn
import Derived.Maps.RangeRun
import Derived.ScopeJumps
import Derived.Shelf.SortM.SortNone
import Derived.Shelf.SortM.Plain
import Derived.Ground.SlgmProg
import Derived.Test.YtpjjmbmmfelooaaMg3
set_option linter.unusedVariables false
set_option linter.unusedSimpArgs false
namespace Go.Vl
open Go Go.Proofs
theorem mfind_mem : ∀ {D : List ME} {e : ME}, (D.map ME.k).Nodup → e ∈ D → ∃ i, mfind D e.k 0 = some (i, e.v)
  | x :: D, e, hn, he => by
    simp only [List.map_cons, List.nodup_cons] at hn
    rw [mfind_cons]
    rcases List.mem_cons.1 he with rfl | he
    · exact ⟨0, by rw [if_pos rfl]⟩
    · have hne : e.k ≠ x.k := fun h => hn.1 (h ▸ List.mem_map_of_mem he)
      obtain ⟨i, hi⟩ := mfind_mem hn.2 he
      exact ⟨i + 1, by rw [if_neg hne, mfind_i, hi]; rfl⟩
theorem get_mem {M : MS} {e : ME} (hw : WfM M) (he : e ∈ M.D) : M.get e.k = some e.v := by
  obtain ⟨i, hi⟩ := mfind_mem hw.keys he
  unfold MS.get; rw [hi]; rfl
theorem mfind_has : ∀ {D : List ME} {a : Int} {i : Nat} {v : Value}, mfind D a 0 = some (i, v) → ∃ e ∈ D, e.k = a ∧ e.v = v := fun {D a i v} h => by
  obtain ⟨hi, h1, h2⟩ := mfind_some h
  exact ⟨D[i], List.getElem_mem hi, h1, h2⟩
/-- An entry: its address, what was put there. -/
theorem mf_val {M : MS} {n : Nat} {f : TF} {e : ME} (h : MF M n f) (he : e ∈ M.D) : ∃ a c, a < n ∧ e.k = ((a : Nat) : Int) ∧ f a = some c ∧ e.v = encC c := by
  obtain ⟨a, ha, hk⟩ := h.keys e he
  have h1 := get_mem h.wf he
  rw [hk, h.get a] at h1
  cases hf : f a with
  | none => rw [hf] at h1; cases h1
  | some c => rw [hf] at h1; simp only [Option.map_some, Option.some.injEq] at h1; exact ⟨a, c, ha, hk, hf, h1.symm⟩
theorem mf_has {M : MS} {n a : Nat} {f : TF} {c : Nat × Bool} (h : MF M n f) (hf : f a = some c) : ∃ e ∈ M.D, e.k = ((a : Nat) : Int) ∧ e.v = encC c := by
  have h1 := h.get a
  rw [hf] at h1
  unfold MS.get at h1
  cases hm : mfind M.D (a : Int) 0 with
  | none => rw [hm] at h1; cases h1
  | some p =>
    rw [hm] at h1
    simp only [Option.map_some, Option.some.injEq] at h1
    obtain ⟨e, he, h2, h3⟩ := mfind_has (i := p.1) (v := p.2) hm
    exact ⟨e, he, h2, h3.trans h1⟩
/-- The keys of a kind among entries. -/
def kys (f : TF) (k : Bool) (l : List ME) : List Int := (l.filter fun e => isK f k e.k.toNat).map ME.k
theorem kys_nil (f : TF) (k : Bool) : kys f k [] = [] := rfl
theorem kys_snoc (f : TF) (k : Bool) (l : List ME) (e : ME) : kys f k (l ++ [e]) = kys f k l ++ (if isK f k e.k.toNat then [e.k] else []) := by
  unfold kys
  rw [List.filter_append, List.map_append]
  congr 1
  simp only [List.filter_cons, List.filter_nil]
  split <;> rfl
theorem kys_len (f : TF) (k : Bool) (l : List ME) : (kys f k l).length ≤ l.length := by unfold kys; rw [List.length_map]; exact List.length_filter_le _ _
theorem adr_mem {n : Nat} {k : Bool} {f : TF} {a : Nat} : a ∈ adrF n k f ↔ a < n ∧ isK f k a = true := by unfold adrF; rw [List.mem_filter, List.mem_range]
theorem adr_sorted (n : Nat) (k : Bool) (f : TF) : (adrF n k f).Pairwise (· < ·) := (List.pairwise_lt_range).filter _
theorem kys_sort {M : MS} {n : Nat} {f : TF} {k : Bool} {vis : List ME} (h : MF M n f) (hv : vis.Perm M.D) : (kys f k vis).mergeSort (fun x y => decide (x ≤ y)) = (adrF n k f).map fun a : Nat => (a : Int) := by
  have hp1 : ((kys f k vis).mergeSort (fun x y => decide (x ≤ y))).Perm ((adrF n k f).map fun a : Nat => (a : Int)) := by
    refine (List.mergeSort_perm _ _).trans ?_; refine (List.perm_ext_iff_of_nodup ?_ ?_).2 fun x => ?_
    · unfold kys
      exact ((hv.map ME.k).nodup_iff.2 h.wf.keys).sublist (List.filter_sublist.map ME.k)
    · refine List.Pairwise.map _ (fun a b hab e => ?_) (adr_sorted n k f)
      omega
    · unfold kys
      simp only [List.mem_map, List.mem_filter]
      constructor
      · rintro ⟨e, ⟨he, hk⟩, rfl⟩
        obtain ⟨a, c, ha, hka, hf, _⟩ := mf_val h (hv.mem_iff.1 he)
        rw [hka, Int.toNat_natCast] at hk
        exact ⟨a, adr_mem.2 ⟨ha, hk⟩, hka.symm⟩
      · rintro ⟨a, ha, rfl⟩
        obtain ⟨h1, h2⟩ := adr_mem.1 ha
        have h3 := of_decide_eq_true h2
        cases hf : f a with
        | none => rw [hf] at h3; cases h3
        | some c =>
          obtain ⟨e, he, hk, _⟩ := mf_has h hf
          exact ⟨e, ⟨hv.mem_iff.2 he, by rw [hk, Int.toNat_natCast]; exact h2⟩, hk⟩
  have hs1 : ((kys f k vis).mergeSort (fun x y => decide (x ≤ y))).Pairwise (· ≤ ·) := by
    have := List.pairwise_mergeSort (le := fun x y : Int => decide (x ≤ y)) (fun a b c h1 h2 => decide_eq_true (Int.le_trans (of_decide_eq_true h1) (of_decide_eq_true h2))) (fun a b => by simp only [Bool.or_eq_true, decide_eq_true_eq]; omega) (kys f k vis)
    exact this.imp fun h => of_decide_eq_true h
  have hs2 : ((adrF n k f).map fun a : Nat => (a : Int)).Pairwise (· ≤ ·) := List.Pairwise.map _ (fun a b hab => by omega) (adr_sorted n k f)
  exact hp1.eq_of_pairwise (fun a b _ _ h1 h2 => Int.le_antisymm h1 h2) hs1 hs2
theorem mf_len {M : MS} {n : Nat} {f : TF} (h : MF M n f) : M.D.length ≤ n := by
  have h1 : (M.D.map fun e => e.k.toNat).Nodup := by
    refine List.pairwise_map.2 ?_; refine List.Pairwise.imp_of_mem (fun {x y} hx hy hne => ?_) (List.pairwise_map.1 h.wf.keys)
    obtain ⟨a, _, h2⟩ := h.keys x hx
    obtain ⟨b, _, h3⟩ := h.keys y hy
    omega
  have h3 := List.Nodup.length_le_of_subset h1 (l₂ := List.range n) fun x hx => by
    obtain ⟨e, he, rfl⟩ := List.mem_map.1 hx
    obtain ⟨a, ha, hk⟩ := h.keys e he
    rw [List.mem_range]; omega
  rw [List.length_map, List.length_range] at h3; exact h3
theorem runsL_snoc (f : TF) (l : List Nat) (a : Nat) : runsL f (l ++ [a]) = runA f (runsL f l) a := by unfold runsL; rw [List.foldl_append]; rfl
end Go.Vl

namespace Go.Vl
open Go Go.Proofs
def scQ (l : Nat) (K : Env → SP → Prop) (Q : Post) : Post
  | .goto l', ρ, A => l' = l ∧ K ρ A
  | e, ρ, A => Q e ρ A
section
variable {P : Program} {n : Nat} {ρ : Env} {A : SP} {Q : Post} {K : Env → SP → Prop} {l : Nat}
theorem tc_goto (h : Q (.goto l) ρ A) : TC P n (.goto l) Q ρ A := fun g a w ha hs => wp_goto ⟨rfl, ρ, A, ha, hs, h⟩
theorem q_sc_r (h : Q .ret ρ A) : scQ l K Q .ret ρ A := h
theorem q_sc_g (h : K ρ A) : scQ l K Q (.goto l) ρ A := ⟨rfl, h⟩
theorem q_then_g {K' : Env → SP → Prop} (h : Q (.goto l) ρ A) : thenQ K' Q (.goto l) ρ A := h
theorem tc_scope {c rest : Code} (K : Env → SP → Prop) (hf : findLabel c l = some (.seq .skip rest)) (hk : ∀ ρ A, K ρ A → TC P n rest (scQ l (fun _ _ => False) Q) ρ A)
    (h : (∀ ρ A, K ρ A → TC P n rest (scQ l (fun _ _ => False) Q) ρ A) → TC P n c (scQ l K Q) ρ A) : TC P n (.scope c) Q ρ A := fun g a w ha hs => by
  refine wp_scope_jumps l (fun a w => ∃ ρ A, Agr n ρ a ∧ sat g w A ∧ K ρ A) (fun _ _ => 0) hf ?_ ?_
  · refine wp_mono (h hk g a w ha hs) fun e a' w' ⟨hok, ρ', A', ha', hs', hq⟩ => ?_
    cases e with
    | goto l' => exact ⟨hq.1, ρ', A', ha', hs', hq.2⟩
    | normal => exact ⟨hok, ρ', A', ha', hs', hq⟩
    | exit id => exact ⟨hok, ρ', A', ha', hs', hq⟩
    | ret => exact ⟨hok, ρ', A', ha', hs', hq⟩
    | panic ch => exact ⟨hok, ρ', A', ha', hs', hq⟩
    | outgrown => exact ⟨hok, ρ', A', ha', hs', hq⟩
  · rintro a w ⟨ρ, A, ha, hs, hK⟩
    refine wp_mono ((tc_seq (tc_skip (hk ρ A hK)) : TC P n (.seq .skip rest) (scQ l (fun _ _ => False) Q) ρ A) g a w ha hs) fun e a' w' ⟨hok, ρ', A', ha', hs', hq⟩ => ?_
    cases e with
    | goto l' => exact hq.2.elim
    | normal => exact ⟨hok, ρ', A', ha', hs', hq⟩
    | exit id => exact ⟨hok, ρ', A', ha', hs', hq⟩
    | ret => exact ⟨hok, ρ', A', ha', hs', hq⟩
    | panic ch => exact ⟨hok, ρ', A', ha', hs', hq⟩
    | outgrown => exact ⟨hok, ρ', A', ha', hs', hq⟩
theorem tc_fall {rest : Code} (hk : ∀ ρ A, K ρ A → TC P n rest (scQ l (fun _ _ => False) Q) ρ A) (h : K ρ A) : TC P n (.seq (.label l) rest) (scQ l K Q) ρ A := by
  refine tc_seq (tc_label ?_)
  show TC P n rest (scQ l K Q) ρ A
  exact tc_imp (hk ρ A h) fun e ρ A hq => by
    cases e with
    | goto l' => exact hq.2.elim
    | _ => exact hq
end
end Go.Vl

namespace Go.Vl
open Go Go.Proofs
def pocs (lg d : Nat) (ov : Option Nat) : List Value := [.pointer (some ⟨d, 0, none⟩), .pointer (some ⟨lg, 0, none⟩), .pointer (ov.map fun t => (⟨t, 0, none⟩ : Addr))]
def txcs (p mb : Nat) (over : Bool) : List Value := [.pointer (some ⟨p, 0, none⟩), .map (some mb), .bool over]
def stpS (at_ sz : Nat) (s : DevS) : Int := if (recordsS at_ sz s).2 = 0 ∧ (recordsS at_ sz s).1 ≠ [] then 3 else (recordsS at_ sz s).2
def idlS (s : DevS) (ov : Option Nat) : Int := if s.off = true then 5 else if ov.isSome then 3 else 0
theorem rec_err {at_ sz : Nat} {s : DevS} : (recordsS at_ sz s).2 = 0 ∨ (recordsS at_ sz s).2 = 5 ∨ (recordsS at_ sz s).2 = 110 := by
  unfold recordsS
  split
  · exact .inr (.inl rfl)
  · rcases Classical.em ((recsF (s.ls.length * 64) at_ sz (roomS at_ sz s) (wordP (at_ : Nat) s).1 0).2 = 0) with h | h
    · exact .inl h
    · rw [recs_err h]; exact .inr (.inr rfl)
attribute [local irreducible] crk crL crc Sl pt ro Dev imgS recS readS recsF rdW rdO rkT Parts rvl recordsS
theorem made12_c {A : SP} {d : Nat} {p lg : Nat} {ov : Option Nat} (hp : Has A p (cl (pocs lg d ov) 66) := by (repeat (first | assumption | with_reducible exact has_here | with_reducible exact has_pt | apply has_left))) :
    Fn Try.prog 29 #[.pointer (some ⟨p, 0, none⟩)] (A) (fun r B => r = .bool true ∧ A = B) := by
  refine fn_enterW (args := [.pointer (some ⟨p, 0, none⟩)]) Try.func29 rfl Try.ntmps29 (by simp) ?_; refine sr ?_; refine tla ?_; refine nq ?_; refine sr ?_; refine tlm ?_; refine tv (o_nep Try.underlying27 rfl rfl) ?_; refine tlm ?_; refine tl_bool (d := 5) rfl (fun h => ?_) (fun h => ?_)
  · try simp only [lv1, lv2, lv3, lv4, lv5, lv6, Bool.not_true, Bool.not_false] at h
    refine tlm ?_; refine tv (o_nilCheck rfl) ?_; refine tv (o_fieldAddr (o := 0) Try.underlying66 rfl rfl sz26 rfl) ?_; refine tv (o_load p26 rfl hp rfl) ?_; refine tv (o_nep Try.underlying26 rfl rfl) ?_; refine tv (o_pick_t rfl (by conv => lhs; whnf)) ?_; refine tla ?_; refine nq ?_; refine tc_ret ?_; exact ⟨.bool true, _, res1 rfl rfl, Dr.sat (by repeat (first | with_reducible exact dr_refl | apply dr_keep | apply dr_drop)), rfl, rfl⟩
  · exfalso; simp at h
theorem Size12_c {A R : SP} {C : SP → SP} {d : Nat} {s : DevS} (hc : Ct A (Dev d s) R C := by repeat (first | with_reducible exact ct_here | apply ct_left)) {p lg : Nat} {ov : Option Nat} (hp : Has A p (cl (pocs lg d ov) 66) := by (repeat (first | assumption | with_reducible exact has_here | with_reducible exact has_pt | apply has_left))) :
    Fn Try.prog 22 #[.pointer (some ⟨p, 0, none⟩)] (A) (fun r B => r = .int .i64 ((s.ls.length : Int) * 64) ∧ A = B) := by
  refine fn_enterW (args := [.pointer (some ⟨p, 0, none⟩)]) Try.func22 rfl Try.ntmps22 (by simp) ?_; refine sr ?_; refine tla ?_; refine nq ?_; refine tc_seq ?_; refine sr ?_; refine tlm ?_; refine tl_c rfl (o_call bd29 rfl (made12_c (hp := hp))) ?_; rintro _ _ ⟨rfl, rfl⟩; refine tv (o_not rfl) ?_; refine nq ?_; refine tc_cond rfl (fun h => ?_) (fun h => ?_)
  · exfalso; simp at h
  · try simp only [lv1, lv2, lv3, lv4, lv5, lv6, Bool.not_true, Bool.not_false] at h
    refine tc_skip ?_; refine q_then_n ?_; refine sr ?_; refine tlm ?_; refine tv (o_nilCheck rfl) ?_; refine tv (o_fieldAddr (o := 0) Try.underlying66 rfl rfl sz26 rfl) ?_; refine tv (o_load p26 rfl hp rfl) ?_; refine tl_c rfl (o_call bd34 rfl (Size_c (hc := hc))) ?_; rintro _ _ ⟨rfl, rfl⟩; refine tla ?_; refine nq ?_; refine tc_ret ?_; exact ⟨_, _, res1 rfl rfl, Dr.sat (by repeat (first | with_reducible exact dr_refl | apply dr_keep | apply dr_drop)), rfl, rfl⟩
theorem Load12_c {A R : SP} {C : SP → SP} {d : Nat} {s : DevS} (hc : Ct A (Dev d s) R C := by repeat (first | with_reducible exact ct_here | apply ct_left)) {p lg : Nat} {ov : Option Nat} (hp : Has A p (cl (pocs lg d ov) 66) := by (repeat (first | assumption | with_reducible exact has_here | with_reducible exact has_pt | apply has_left))) {q m : Nat} (hoff : s.off = false := by assumption) (hpm : q + m ≤ s.ls.length * 64 := by omega) :
    Fn Try.prog 9 #[.pointer (some ⟨p, 0, none⟩), .int .i64 (q : Nat), .int .i64 (m : Nat)] (A) (fun r B => ∃ a c, r = .tuple #[.slice a m c, .int .i64 0] ∧ m ≤ c ∧ B = A * Sl 1 (.slice a m c) m (bys (((imgS s).drop q).take m))) := by
  refine fn_enterW (args := [.pointer (some ⟨p, 0, none⟩), .int .i64 (q : Nat), .int .i64 (m : Nat)]) Try.func9 rfl Try.ntmps9 (by simp) ?_; refine sr ?_; refine tla ?_; refine tla ?_; refine nq ?_; refine tc_seq ?_; refine sr ?_; refine tlm ?_; refine tl_c rfl (o_call bd29 rfl (made12_c (hp := hp))) ?_; rintro _ _ ⟨rfl, rfl⟩; refine tv (o_not rfl) ?_; refine nq ?_; refine tc_cond rfl (fun h => ?_) (fun h => ?_)
  · exfalso; simp at h
  · try simp only [lv1, lv2, lv3, lv4, lv5, lv6, Bool.not_true, Bool.not_false] at h
    refine tc_skip ?_; refine q_then_n ?_; refine sr ?_; refine tlm ?_; refine tv (o_nilCheck rfl) ?_; refine tv (o_fieldAddr (o := 0) Try.underlying66 rfl rfl sz26 rfl) ?_; refine tv (o_load p26 rfl hp rfl) ?_; refine tlm ?_; refine tlm ?_; refine tl_c rfl (o_call bd28 rfl (Load_c (hc := hc) (p := q) (m := m))) ?_; rintro _ _ ⟨a17, c17, rfl, hc17, rfl⟩; refine tv (o_extract rfl rfl) ?_; refine tv (o_extract rfl rfl) ?_; refine tla ?_; refine tla ?_; refine nq ?_; refine tc_ret ?_; exact ⟨_, _, res2 rfl rfl rfl, Dr.sat (by repeat (first | with_reducible exact dr_refl | apply dr_keep | apply dr_drop)), a17, c17, rfl, hc17, rfl⟩
theorem State12_c {A R : SP} {C : SP → SP} {d : Nat} {s : DevS} (hc : Ct A (Dev d s) R C := by repeat (first | with_reducible exact ct_here | apply ct_left)) {p lg : Nat} {ov : Option Nat} (hp : Has A p (cl (pocs lg d ov) 66) := by (repeat (first | assumption | with_reducible exact has_here | with_reducible exact has_pt | apply has_left))) {at_ sz : Nat} (hl : Has R lg (cl (lcs11 d at_ sz) 109) := by (repeat (first | assumption | with_reducible exact has_here | with_reducible exact has_pt | apply has_left))) (hlw : LogW (s.ls.length * 64) at_ sz := by assumption) :
    Fn Try.prog 16 #[.pointer (some ⟨p, 0, none⟩)] (A) (fun r B => r = .int .i64 (stpS at_ sz s) ∧ A = B) := by
  refine fn_enterW (args := [.pointer (some ⟨p, 0, none⟩)]) Try.func16 rfl Try.ntmps16 (by simp) ?_
  obtain ⟨L, e0, hL⟩ : ∃ L e0, recordsS at_ sz s = (L, e0) := ⟨_, _, rfl⟩
  have hst : stpS at_ sz s = if e0 = 0 ∧ L ≠ [] then 3 else e0 := by unfold stpS; rw [hL]
  refine sr ?_; refine tla ?_; refine nq ?_; refine tc_seq ?_; refine sr ?_; refine tlm ?_; refine tl_c rfl (o_call bd29 rfl (made12_c (hp := hp))) ?_; rintro _ _ ⟨rfl, rfl⟩; refine tv (o_not rfl) ?_; refine nq ?_; refine tc_cond rfl (fun h => ?_) (fun h => ?_)
  · exfalso; simp at h
  · try simp only [lv1, lv2, lv3, lv4, lv5, lv6, Bool.not_true, Bool.not_false] at h
    refine tc_skip ?_; refine q_then_n ?_; refine sr ?_; refine tlm ?_; refine tv (o_nilCheck rfl) ?_; refine tv (o_fieldAddr (o := 1) Try.underlying66 rfl rfl sz64 rfl) ?_; refine tv (o_load p64 rfl hp rfl) ?_; refine tl_c rfl (o_call bd37 rfl (Records_w (hc := hc) (hl := hl) (hlw := hlw) (hX := hL))) ?_; rintro _ _ ⟨a13, c13, vs, rfl, hc13, hvs, rfl⟩
    have hA9 : C (Dev d s) = A := by rw [hc.2]; exact hc.1.symm
    rw [hA9]
    refine tlm ?_; refine tv (o_extract rfl rfl) ?_; refine tv (o_extract rfl rfl) ?_; refine tla ?_; refine tla ?_; refine nq ?_; refine tc_seq ?_; refine tc_seq ?_; refine tc_cut (fun ρ BB => ∃ (bb : Bool), (bb = decide (e0 = 0 ∧ L ≠ [])) ∧ ρ 22 = .bool bb ∧ ρ 4 = .int .i64 e0 ∧ Dr BB (A)) ?_ ?_
    · skip
      refine tc_reg ?_; refine tlm ?_; refine tv (o_eqi rfl rfl) ?_; refine tlm ?_; refine tl_bool (d := 18) rfl (fun h => ?_) (fun h => ?_)
      · have g18 : (e0 = 0) := by first | exact of_decide_eq_true h | (have h2 := h; simp at h2; omega) | simpa using h
        refine tlm ?_; refine tv (o_len Try.underlying88 rfl) ?_; refine tv (o_gtr rfl rfl) ?_; refine tv (o_pick_t rfl (by conv => lhs; whnf)) ?_; refine tl_nil ?_; exact ⟨_, by first | (rw [decide_eq_decide]; exact ⟨fun h9 => ⟨g18, fun e => by subst e; simp at h9⟩, fun h9 => by have := List.length_pos_iff.2 h9.2; omega⟩) | exact (decide_eq_false fun h9 => g18 h9.1).symm, rfl, rfl, (by repeat (first | with_reducible exact dr_refl | apply dr_keep | apply dr_drop))⟩
      · have g18 : ¬ (e0 = 0) := by first | exact of_decide_eq_false h | (have h2 := h; simp at h2; omega) | simpa using h
        refine tk ?_; refine tk ?_; refine tk ?_; refine tv (o_pick_f rfl (by conv => lhs; whnf)) ?_; refine tl_nil ?_; exact ⟨_, by first | (rw [decide_eq_decide]; exact ⟨fun h9 => ⟨g18, fun e => by subst e; simp at h9⟩, fun h9 => by have := List.length_pos_iff.2 h9.2; omega⟩) | exact (decide_eq_false fun h9 => g18 h9.1).symm, rfl, rfl, (by repeat (first | with_reducible exact dr_refl | apply dr_keep | apply dr_drop))⟩
    · intro ρ B hI
      obtain ⟨bb, hbb0, hE22, hE4, hBA⟩ := hI
      refine q_then_n ?_; refine tc_pre hBA.sat ?_
      clear hBA
      refine tc_env (d := 22) hE22 ?_; refine tc_env (d := 4) hE4 ?_
      clear hE22 hE4
      refine tc_cond rfl (fun h => ?_) (fun h => ?_)
      · try simp only [lv1, lv2, lv3, lv4, lv5, lv6, Bool.not_true, Bool.not_false] at h
        refine sr ?_; refine tla ?_; refine nq ?_; refine tc_ret ?_; refine q_then_r ?_
        rw [h] at hbb0
        have h9 := of_decide_eq_true hbb0.symm
        rw [hst, if_pos h9]
        exact ⟨.int .i64 3, _, res1 rfl rfl, Dr.sat (by repeat (first | with_reducible exact dr_refl | apply dr_keep | apply dr_drop)), rfl, rfl⟩
      · try simp only [lv1, lv2, lv3, lv4, lv5, lv6, Bool.not_true, Bool.not_false] at h
        refine tc_skip ?_; refine q_then_n ?_; refine sr ?_; refine tlm ?_; refine tla ?_; refine nq ?_; refine tc_ret ?_
        rw [h] at hbb0
        have h9 := of_decide_eq_false hbb0.symm
        rw [hst, if_neg h9]
        exact ⟨.int .i64 e0, _, res1 rfl rfl, Dr.sat (by repeat (first | with_reducible exact dr_refl | apply dr_keep | apply dr_drop)), rfl, rfl⟩
theorem idle12_c {A R : SP} {C : SP → SP} {d : Nat} {s : DevS} (hc : Ct A (Dev d s) R C := by repeat (first | with_reducible exact ct_here | apply ct_left)) {p lg : Nat} {ov : Option Nat} (hp : Has A p (cl (pocs lg d ov) 66) := by (repeat (first | assumption | with_reducible exact has_here | with_reducible exact has_pt | apply has_left))) :
    Fn Try.prog 31 #[.pointer (some ⟨p, 0, none⟩)] (A) (fun r B => r = .int .i64 (idlS s ov) ∧ A = B) := by
  refine fn_enterW (args := [.pointer (some ⟨p, 0, none⟩)]) Try.func31 rfl Try.ntmps31 (by simp) ?_; refine sr ?_; refine tla ?_; refine nq ?_; refine tc_seq ?_; refine tc_block ?_; refine sr ?_; refine tlm ?_; refine tl_c rfl (o_call bd29 rfl (made12_c (hp := hp))) ?_; rintro _ _ ⟨rfl, rfl⟩; refine tv (o_not rfl) ?_; refine tla ?_; refine nq ?_; refine tc_cond rfl (fun h => ?_) (fun h => ?_)
  · exfalso; simp at h
  · try simp only [lv1, lv2, lv3, lv4, lv5, lv6, Bool.not_true, Bool.not_false] at h
    refine sr ?_; refine tlm ?_; refine tv (o_nilCheck rfl) ?_; refine tv (o_fieldAddr (o := 0) Try.underlying66 rfl rfl sz26 rfl) ?_; refine tv (o_load p26 rfl hp rfl) ?_; refine tl_c rfl (o_call bd47 rfl (Off_c (hc := hc))) ?_; rintro _ _ ⟨rfl, rfl⟩; refine tla ?_; refine nq ?_; refine tc_cond rfl (fun h => ?_) (fun h => ?_)
    · try simp only [lv1, lv2, lv3, lv4, lv5, lv6, Bool.not_true, Bool.not_false] at h
      refine sr ?_; refine tla ?_; refine nq ?_; refine tc_ret ?_; refine q_block_r (q_then_r ?_)
      have e : idlS s ov = 5 := by unfold idlS; rw [if_pos h]
      rw [e]
      exact ⟨.int .i64 5, _, res1 rfl rfl, Dr.sat (by repeat (first | with_reducible exact dr_refl | apply dr_keep | apply dr_drop)), rfl, rfl⟩
    · have ho : s.off = false := by simpa using h
      refine sr ?_; refine tlm ?_; refine tv (o_nilCheck rfl) ?_; refine tv (o_fieldAddr (o := 2) Try.underlying66 rfl rfl sz28 rfl) ?_; refine tv (o_load p28 rfl hp rfl) ?_; refine tv (o_nep Try.underlying28 rfl rfl) ?_; refine tla ?_; refine nq ?_; refine tc_cond rfl (fun h => ?_) (fun h => ?_)
      · try simp only [lv1, lv2, lv3, lv4, lv5, lv6, Bool.not_true, Bool.not_false] at h
        refine sr ?_; refine tla ?_; refine nq ?_; refine tc_ret ?_; refine q_block_r (q_then_r ?_)
        have e : idlS s ov = 3 := by unfold idlS; rw [if_neg (by rw [ho]; decide), if_pos (by cases ov <;> simp at h ⊢)]
        rw [e]
        exact ⟨.int .i64 3, _, res1 rfl rfl, Dr.sat (by repeat (first | with_reducible exact dr_refl | apply dr_keep | apply dr_drop)), rfl, rfl⟩
      · try simp only [lv1, lv2, lv3, lv4, lv5, lv6, Bool.not_true, Bool.not_false] at h
        refine tc_skip ?_; refine q_block_n (q_then_n ?_); refine sr ?_; refine tla ?_; refine nq ?_; refine tc_ret ?_
        have e : idlS s ov = 0 := by unfold idlS; rw [if_neg (by rw [ho]; decide), if_neg (by cases ov <;> simp at h ⊢)]
        rw [e]
        exact ⟨.int .i64 0, _, res1 rfl rfl, Dr.sat (by repeat (first | with_reducible exact dr_refl | apply dr_keep | apply dr_drop)), rfl, rfl⟩
theorem begun12_c {A R : SP} {C : SP → SP} {d : Nat} {s : DevS} (hc : Ct A (Dev d s) R C := by repeat (first | with_reducible exact ct_here | apply ct_left)) {p lg : Nat} {ov : Option Nat} (hp : Has A p (cl (pocs lg d ov) 66) := by (repeat (first | assumption | with_reducible exact has_here | with_reducible exact has_pt | apply has_left))) {t mb : Nat} (ht : Has A t (cl (txcs p mb false) 69) := by (repeat (first | assumption | with_reducible exact has_here | with_reducible exact has_pt | apply has_left))) (ho : s.off = false := by assumption) :
    Fn Try.prog 27 #[.pointer (some ⟨t, 0, none⟩)] (A) (fun r B => r = .int .i64 0 ∧ A = B) := by
  refine fn_enterW (args := [.pointer (some ⟨t, 0, none⟩)]) Try.func27 rfl Try.ntmps27 (by simp) ?_; refine sr ?_; refine tla ?_; refine nq ?_; refine tc_seq ?_; refine tc_block ?_; refine sr ?_; refine tlm ?_; refine tv (o_eqp Try.underlying28 rfl rfl) ?_; refine tlm ?_; refine tl_bool (d := 6) rfl (fun h => ?_) (fun h => ?_)
  · exfalso; simp at h
  · try simp only [lv1, lv2, lv3, lv4, lv5, lv6, Bool.not_true, Bool.not_false] at h
    refine tlm ?_; refine tv (o_nilCheck rfl) ?_; refine tv (o_fieldAddr (o := 0) Try.underlying69 rfl rfl sz27 rfl) ?_; refine tv (o_load p27 rfl ht rfl) ?_; refine tv (o_eqp Try.underlying27 rfl rfl) ?_; refine tv (o_pick_f rfl (by conv => lhs; whnf)) ?_; refine tla ?_; refine nq ?_; refine tc_cond rfl (fun h => ?_) (fun h => ?_)
    · exfalso; simp at h
    · try simp only [lv1, lv2, lv3, lv4, lv5, lv6, Bool.not_true, Bool.not_false] at h
      refine sr ?_; refine tlm ?_; refine tv (o_nilCheck rfl) ?_; refine tv (o_fieldAddr (o := 2) Try.underlying69 rfl rfl sz4 rfl) ?_; refine tv (o_load p4 rfl ht rfl) ?_; refine tla ?_; refine nq ?_; refine tc_cond rfl (fun h => ?_) (fun h => ?_)
      · exfalso; simp at h
      · try simp only [lv1, lv2, lv3, lv4, lv5, lv6, Bool.not_true, Bool.not_false] at h
        refine sr ?_; refine tlm ?_; refine tv (o_nilCheck rfl) ?_; refine tv (o_fieldAddr (o := 0) Try.underlying69 rfl rfl sz27 rfl) ?_; refine tv (o_load p27 rfl ht rfl) ?_; refine tv (o_nilCheck rfl) ?_; refine tv (o_fieldAddr (o := 0) Try.underlying66 rfl rfl sz26 rfl) ?_; refine tv (o_load p26 rfl hp rfl) ?_; refine tl_c rfl (o_call bd47 rfl (Off_c (hc := hc))) ?_; rintro _ _ ⟨rfl, rfl⟩; refine tla ?_; refine nq ?_; refine tc_cond rfl (fun h => ?_) (fun h => ?_)
        · exfalso; rw [ho] at h; simp at h
        · try simp only [lv1, lv2, lv3, lv4, lv5, lv6, Bool.not_true, Bool.not_false] at h
          refine tc_skip ?_; refine q_block_n (q_then_n ?_); refine sr ?_; refine tla ?_; refine nq ?_; refine tc_ret ?_; exact ⟨.int .i64 0, _, res1 rfl rfl, Dr.sat (by repeat (first | with_reducible exact dr_refl | apply dr_keep | apply dr_drop)), rfl, rfl⟩
theorem begunO_c {A : SP} {p t mb : Nat} (ht : Has A t (cl (txcs p mb true) 69) := by (repeat (first | assumption | with_reducible exact has_here | with_reducible exact has_pt | apply has_left))) :
    Fn Try.prog 27 #[.pointer (some ⟨t, 0, none⟩)] (A) (fun r B => r = .int .i64 3 ∧ A = B) := by
  refine fn_enterW (args := [.pointer (some ⟨t, 0, none⟩)]) Try.func27 rfl Try.ntmps27 (by simp) ?_; refine sr ?_; refine tla ?_; refine nq ?_; refine tc_seq ?_; refine tc_block ?_; refine sr ?_; refine tlm ?_; refine tv (o_eqp Try.underlying28 rfl rfl) ?_; refine tlm ?_; refine tl_bool (d := 6) rfl (fun h => ?_) (fun h => ?_)
  · exfalso; simp at h
  · try simp only [lv1, lv2, lv3, lv4, lv5, lv6, Bool.not_true, Bool.not_false] at h
    refine tlm ?_; refine tv (o_nilCheck rfl) ?_; refine tv (o_fieldAddr (o := 0) Try.underlying69 rfl rfl sz27 rfl) ?_; refine tv (o_load p27 rfl ht rfl) ?_; refine tv (o_eqp Try.underlying27 rfl rfl) ?_; refine tv (o_pick_f rfl (by conv => lhs; whnf)) ?_; refine tla ?_; refine nq ?_; refine tc_cond rfl (fun h => ?_) (fun h => ?_)
    · exfalso; simp at h
    · try simp only [lv1, lv2, lv3, lv4, lv5, lv6, Bool.not_true, Bool.not_false] at h
      refine sr ?_; refine tlm ?_; refine tv (o_nilCheck rfl) ?_; refine tv (o_fieldAddr (o := 2) Try.underlying69 rfl rfl sz4 rfl) ?_; refine tv (o_load p4 rfl ht rfl) ?_; refine tla ?_; refine nq ?_; refine tc_cond rfl (fun h => ?_) (fun h => ?_)
      · try simp only [lv1, lv2, lv3, lv4, lv5, lv6, Bool.not_true, Bool.not_false] at h
        refine sr ?_; refine tla ?_; refine nq ?_; refine tc_ret ?_; refine q_block_r (q_then_r ?_); exact ⟨.int .i64 3, _, res1 rfl rfl, Dr.sat (by repeat (first | with_reducible exact dr_refl | apply dr_keep | apply dr_drop)), rfl, rfl⟩
      · exfalso; simp at h
theorem end12_c {A R : SP} {p lg d t mb : Nat} {over : Bool} {M : MS} (hA : A = R * pt p (cl (pocs lg d (some t)) 66) * pt t (cl (txcs p mb over) 69) * pt mb (mpo .i64 M)) :
    Fn Try.prog 33 #[.pointer (some ⟨t, 0, none⟩)] (A) (fun r B => r = .tuple #[] ∧ B = R * pt p (cl (pocs lg d none) 66) * pt t (cl (txcs p mb true) 69) * pt mb (mpo .i64 M.clr)) := by
  refine fn_enterW (args := [.pointer (some ⟨t, 0, none⟩)]) Try.func33 rfl Try.ntmps33 (by simp) ?_
  subst hA
  refine sr ?_; refine tlm ?_; refine tv (o_nilCheck rfl) ?_; refine tv (o_fieldAddr (o := 2) Try.underlying69 rfl rfl sz4 rfl) ?_; refine tl_u rfl (o_stU (l' := txcs p mb true) rfl (by repeat (first | with_reducible exact upd_here | with_reducible exact upd_pt | apply upd_left)) sz4 rfl rfl (by show 2 < 3; decide) rfl) ?_; refine nq ?_; refine sr ?_; refine tlm ?_; refine tv (o_nilCheck rfl) ?_; refine tv (o_fieldAddr (o := 1) Try.underlying69 rfl rfl sz67 rfl) ?_; refine tv (o_load p67 rfl (by repeat (first | with_reducible exact has_here | with_reducible exact has_pt | apply has_left)) rfl) ?_; refine tl_x rfl (o_clearM Try.underlying67 rfl (by repeat (first | with_reducible exact upd_here | with_reducible exact upd_pt | apply upd_left))) ?_; rintro _ _ ⟨rfl, rfl⟩; refine nq ?_; refine tc_reg ?_; refine tlm ?_; refine tv (o_nilCheck rfl) ?_; refine tv (o_fieldAddr (o := 0) Try.underlying69 rfl rfl sz27 rfl) ?_; refine tv (o_load p27 rfl (by repeat (first | with_reducible exact has_here | with_reducible exact has_pt | apply has_left)) rfl) ?_; refine tv (o_nilCheck rfl) ?_; refine tv (o_fieldAddr (o := 2) Try.underlying66 rfl rfl sz28 rfl) ?_; refine tl_u rfl (o_stU (l' := pocs lg d none) rfl (by repeat (first | with_reducible exact upd_here | with_reducible exact upd_pt | apply upd_left)) sz28 rfl rfl (by show 2 < 3; decide) rfl) ?_
  refine tl_nil ?_; exact ⟨.tuple #[], _, res0 rfl, fun _ _ h => h, rfl, rfl⟩
end Go.Vl

namespace Go.Vl
open Go Go.Proofs
/-- A pool on a device with a log, and its transaction. -/
def TxA (t p lg d mb at_ sz : Nat) (M : MS) (over : Bool) (s : DevS) : SP := pt p (cl (pocs lg d (if over then none else some t)) 66) * pt lg (cl (lcs11 d at_ sz) 109) * Dev d s * pt t (cl (txcs p mb over) 69) * pt mb (mpo .i64 M)
def cel0 (c : Nat × Bool) : List Value := [.int .u8 ((c.1 : Nat) : Int), .bool c.2]
theorem mf_lay {M : MS} {n q i x : Nat} {xs : List Nat} {fr : Bool} {f : TF} (h : MF M n (layF q (xs.take i) fr f)) (hi : i < xs.length) (hx : xs[i] = x) (hb : x < 256) (hn : q + i < n) :
    MF (M.put ((q + i : Nat) : Int) (encC (x, (((layF q (xs.take i) fr f (q + i)).map (·.2)).getD fr)))) n (layF q (xs.take (i + 1)) fr f) := by
  have e : layF q (xs.take (i + 1)) fr f = fun c => if c = q + i then some (x, ((layF q (xs.take i) fr f (q + i)).map (·.2)).getD fr) else layF q (xs.take i) fr f c := by
    rw [List.take_succ_eq_append_getElem hi, layF_snoc, hx]
    funext c
    rw [List.length_take, Nat.min_eq_left (by omega)]
    by_cases hc : c = q + i
    · subst hc; rw [if_pos rfl]
    · rw [if_neg hc, if_neg hc]
  rw [e]
  exact mf_put h hn hb
theorem layF_zero (q : Nat) (fr : Bool) (f : TF) (xs : List Nat) : layF q (xs.take 0) fr f = f := layF_nil q fr f
attribute [local irreducible] crk crL crc Sl pt ro Dev imgS recS readS recsF rdW rdO rkT Parts rvl recordsS
theorem New12_c {A R : SP} {C : SP → SP} {d : Nat} {s : DevS} (hc : Ct A (Dev d s) R C := by repeat (first | with_reducible exact ct_here | apply ct_left)) {lg : Nat} {at_ sz : Nat} (hl : Has R lg (cl (lcs11 d at_ sz) 109) := by (repeat (first | assumption | with_reducible exact has_here | with_reducible exact has_pt | apply has_left))) (hlw : LogW (s.ls.length * 64) at_ sz := by assumption) :
    Fn Try.prog 40 #[.pointer (some ⟨d, 0, none⟩), .pointer (some ⟨lg, 0, none⟩)] (A) (fun r B => ∃ p, r = .tuple #[.pointer (some ⟨p, 0, none⟩), .int .i64 0] ∧ B = A * pt p (cl (pocs lg d none) 66)) := by
  refine fn_enterW (args := [.pointer (some ⟨d, 0, none⟩), .pointer (some ⟨lg, 0, none⟩)]) Try.func40 rfl Try.ntmps40 (by simp) ?_
  obtain ⟨L, e0, hL⟩ : ∃ L e0, recordsS at_ sz s = (L, e0) := ⟨_, _, rfl⟩
  have he0 : e0 ≠ 1 := by have h9 := rec_err (at_ := at_) (sz := sz) (s := s); rw [hL] at h9; simp only [] at h9; omega
  refine tc_have (fun _ _ h => ct_wf2 hc h) fun hwf => ?_
  have htop := hwf.top
  have hpos := hwf.pos
  refine sr ?_; refine tla ?_; refine tla ?_; refine nq ?_; refine tc_seq ?_; refine sr ?_; refine tlm ?_; refine tl_c rfl (o_call bd34 rfl (Size_c (hc := hc))) ?_; rintro _ _ ⟨rfl, rfl⟩; refine tv (o_eqi rfl rfl) ?_; refine nq ?_; refine tc_cond rfl (fun h => ?_) (fun h => ?_)
  · exfalso; first | omega | (simp at h; omega)
  · try simp only [lv1, lv2, lv3, lv4, lv5, lv6, Bool.not_true, Bool.not_false] at h
    refine tc_skip ?_; refine q_then_n ?_; refine tc_seq ?_; refine sr ?_; refine tlm ?_; refine tl_c rfl (o_call bd37 rfl (Records_w (hc := hc) (hl := hl) (hlw := hlw) (hX := hL))) ?_; rintro _ _ ⟨a13, c13, vs, rfl, hc13, hvs, rfl⟩
    have hA9 : C (Dev d s) = A := by rw [hc.2]; exact hc.1.symm
    rw [hA9]
    refine tlm ?_; refine tv (o_extract rfl rfl) ?_; refine tv (o_extract rfl rfl) ?_; refine tla ?_; refine tla ?_; refine nq ?_; refine sr ?_; refine tlm ?_; refine tv (o_eqi rfl rfl) ?_; refine nq ?_; refine tc_cond rfl (fun h => ?_) (fun h => ?_)
    · exfalso; first | exact he0 (of_decide_eq_true h) | (simp at h; omega)
    · try simp only [lv1, lv2, lv3, lv4, lv5, lv6, Bool.not_true, Bool.not_false] at h
      refine tc_skip ?_; refine q_then_n ?_; refine sr ?_; refine tlm ?_; refine tlm ?_; refine tv (o_bS (l := [_, _, _]) (pv_cons (by conv => lhs; whnf) (pv_cons (by conv => lhs; whnf) pv_nil)) Try.underlying66 z66 (pl66 Try.underlying66) rfl) ?_; refine tl_x rfl (o_box rfl rfl) ?_; rintro _ _ ⟨b21, rfl, rfl⟩; refine tla ?_; refine tla ?_; refine nq ?_; refine tc_ret ?_; exact ⟨_, _, res2 rfl rfl rfl, Dr.sat (by repeat (first | with_reducible exact dr_refl | apply dr_keep | apply dr_drop)), b21, rfl, rfl⟩
theorem Begin12_ok {A R : SP} {C : SP → SP} {p lg d at_ sz : Nat} {s : DevS} (hA : A = R * pt p (cl (pocs lg d none) 66) * pt lg (cl (lcs11 d at_ sz) 109) * Dev d s) (hlw : LogW (s.ls.length * 64) at_ sz) (ho : s.off = false) (hst : stpS at_ sz s = 0) :
    Fn Try.prog 12 #[.pointer (some ⟨p, 0, none⟩)] (A) (fun r B => ∃ t mb, r = .tuple #[.pointer (some ⟨t, 0, none⟩), .int .i64 0] ∧ B = R * TxA t p lg d mb at_ sz ⟨[], 0⟩ false s) := by
  refine fn_enterW (args := [.pointer (some ⟨p, 0, none⟩)]) Try.func12 rfl Try.ntmps12 (by simp) ?_
  subst hA
  refine sr ?_; refine tla ?_; refine tla ?_; refine nq ?_; refine tc_seq ?_; refine sr ?_; refine tlm ?_; refine tl_c rfl (o_call bd31 rfl (idle12_c (s := s))) ?_; rintro _ _ ⟨rfl, rfl⟩; refine tla ?_; refine nq ?_; refine sr ?_; refine tlm ?_; refine tv (o_nei rfl rfl) ?_; refine nq ?_; refine tc_cond rfl (fun h => ?_) (fun h => ?_)
  · exfalso; unfold idlS at h; rw [if_neg (by rw [ho]; decide)] at h; simp at h
  · try simp only [lv1, lv2, lv3, lv4, lv5, lv6, Bool.not_true, Bool.not_false] at h
    refine tc_skip ?_; refine q_then_n ?_; refine tc_seq ?_; refine sr ?_; refine tlm ?_; refine tl_c rfl (o_call bd16 rfl (State12_c (s := s))) ?_; rintro _ _ ⟨rfl, rfl⟩; refine tla ?_; refine nq ?_; refine sr ?_; refine tlm ?_; refine tv (o_nei rfl rfl) ?_; refine nq ?_; refine tc_cond rfl (fun h => ?_) (fun h => ?_)
    · exfalso; rw [hst] at h; simp at h
    · try simp only [lv1, lv2, lv3, lv4, lv5, lv6, Bool.not_true, Bool.not_false] at h
      refine tc_skip ?_; refine q_then_n ?_; refine sr ?_; refine tlm ?_; refine tlm ?_; refine tl_x rfl (o_makeMap (ik := .i64) Try.underlying67) ?_; rintro _ _ ⟨b18, rfl, rfl⟩; refine tv (o_bS (l := [_, _, _]) (pv_cons (by conv => lhs; whnf) (pv_cons (by conv => lhs; whnf) pv_nil)) Try.underlying69 z69 (pl69 Try.underlying69) rfl) ?_; refine tl_x rfl (o_box rfl rfl) ?_; rintro _ _ ⟨b20, rfl, rfl⟩; refine tv (o_nilCheck rfl) ?_; refine tv (o_fieldAddr (o := 2) Try.underlying66 rfl rfl sz28 rfl) ?_; refine tl_u rfl (o_stU (l' := pocs lg d (some b20)) rfl (by repeat (first | with_reducible exact upd_here | with_reducible exact upd_pt | apply upd_left)) sz28 rfl rfl (by show 2 < 3; decide) rfl) ?_; refine nq ?_; refine sr ?_; refine tlm ?_; refine tv (o_nilCheck rfl) ?_; refine tv (o_fieldAddr (o := 2) Try.underlying66 rfl rfl sz28 rfl) ?_; refine tv (by first | exact o_load p28 rfl (by repeat (first | with_reducible exact has_here | with_reducible exact has_pt | apply has_left)) rfl | exact o_loadC p28 rfl (by assumption)) ?_; refine tla ?_; refine tla ?_; refine nq ?_; refine tc_ret ?_; exact ⟨_, _, res2 rfl rfl rfl, fun g w h => (Dr.sat (A' := R * pt p (cl (pocs lg d (some b20)) 66) * pt lg (cl (lcs11 d at_ sz) 109) * Dev d s * pt b18 (mpo .i64 ⟨[], 0⟩) * pt b20 (cl (txcs p b18 false) 69)) (by repeat (first | with_reducible exact dr_refl | apply dr_keep | apply dr_drop)) g w h).perm (by unfold TxA; rw [if_neg (by decide)]; ac_rfl), b20, b18, rfl, rfl⟩
theorem Begin12_no {A R : SP} {C : SP → SP} {d : Nat} {s : DevS} (hc : Ct A (Dev d s) R C := by repeat (first | with_reducible exact ct_here | apply ct_left)) {p lg : Nat} {ov : Option Nat} (hp : Has A p (cl (pocs lg d ov) 66) := by (repeat (first | assumption | with_reducible exact has_here | with_reducible exact has_pt | apply has_left))) (hno : idlS s ov ≠ 0 := by assumption) :
    Fn Try.prog 12 #[.pointer (some ⟨p, 0, none⟩)] (A) (fun r B => r = .tuple #[.pointer none, .int .i64 (idlS s ov)] ∧ A = B) := by
  refine fn_enterW (args := [.pointer (some ⟨p, 0, none⟩)]) Try.func12 rfl Try.ntmps12 (by simp) ?_; refine sr ?_; refine tla ?_; refine tla ?_; refine nq ?_; refine tc_seq ?_; refine sr ?_; refine tlm ?_; refine tl_c rfl (o_call bd31 rfl (idle12_c (hc := hc) (hp := hp))) ?_; rintro _ _ ⟨rfl, rfl⟩; refine tla ?_; refine nq ?_; refine sr ?_; refine tlm ?_; refine tv (o_nei rfl rfl) ?_; refine nq ?_; refine tc_cond rfl (fun h => ?_) (fun h => ?_)
  · try simp only [lv1, lv2, lv3, lv4, lv5, lv6, Bool.not_true, Bool.not_false] at h
    refine sr ?_; refine tlm ?_; refine tla ?_; refine tla ?_; refine nq ?_; refine tc_ret ?_; refine q_then_r ?_; exact ⟨_, _, res2 rfl rfl rfl, Dr.sat (by repeat (first | with_reducible exact dr_refl | apply dr_keep | apply dr_drop)), rfl, rfl⟩
  · exfalso; simp at h; exact hno h
set_option maxRecDepth 20000 in
set_option maxHeartbeats 1000000 in
theorem lay12_c {A R : SP} {C : SP → SP} {t p lg d mb at_ sz : Nat} {M : MS} {s : DevS} (hc : Ct A (TxA t p lg d mb at_ sz M false s) R C := by repeat (first | with_reducible exact ct_here | apply ct_left)) {n : Nat} {f : TF} {fr : Bool} {a : Option Addr} {c m q : Nat} {xs : List Nat} (hM : MF M n f) (hn : n = s.ls.length * 64 := by omega) (ho : s.off = false := by assumption) (hr : Rs R a (bys xs) := by repeat (first | assumption | with_reducible exact rs_sl | with_reducible exact rs_pt0 | exact rs_none | apply Rs.left)) (hm : xs.length = m := by first | assumption | rfl) (hb : ∀ x ∈ xs, x < 256 := by assumption) (hqm : q + m ≤ n := by omega) :
    Fn Try.prog 42 #[.pointer (some ⟨t, 0, none⟩), .int .i64 (q : Nat), .slice a m c, .bool fr] (A) (fun r B => ∃ M2, r = .int .i64 0 ∧ MF M2 n (layF q xs fr f) ∧ B = C (TxA t p lg d mb at_ sz M2 false s)) := by
  refine fn_enterW (args := [.pointer (some ⟨t, 0, none⟩), .int .i64 (q : Nat), .slice a m c, .bool fr]) Try.func42 rfl Try.ntmps42 (by simp) ?_
  obtain ⟨rfl, hC⟩ := hc
  refine tc_eq (show _ = R * pt p (cl (pocs lg d (some t)) 66) * pt lg (cl (lcs11 d at_ sz) 109) * Dev d s * pt t (cl (txcs p mb false) 69) * pt mb (mpo .i64 M) by unfold TxA; rw [if_neg (by decide)]; ac_rfl) ?_; refine tc_have (fun _ _ h => ct_wf2 (by repeat (first | with_reducible exact ct_here | apply ct_left)) h) fun hwf => ?_
  have htop := hwf.top
  refine sr ?_; refine tla ?_; refine nq ?_; refine tc_seq ?_; refine sr ?_; refine tlm ?_; refine tl_c rfl (o_call bd27 rfl (begun12_c (s := s))) ?_; rintro _ _ ⟨rfl, rfl⟩; refine tla ?_; refine nq ?_; refine sr ?_; refine tlm ?_; refine tv (o_nei rfl rfl) ?_; refine nq ?_; refine tc_cond rfl (fun h => ?_) (fun h => ?_)
  · exfalso; simp at h
  · try simp only [lv1, lv2, lv3, lv4, lv5, lv6, Bool.not_true, Bool.not_false] at h
    refine tc_skip ?_; refine q_then_n ?_; refine tc_seq ?_; refine sr ?_; refine tlm ?_; refine tv (o_nilCheck rfl) ?_; refine tv (o_fieldAddr (o := 0) Try.underlying69 rfl rfl sz27 rfl) ?_; refine tv (o_load p27 rfl (by repeat (first | with_reducible exact has_here | with_reducible exact has_pt | apply has_left)) rfl) ?_; refine tv (o_nilCheck rfl) ?_; refine tv (o_fieldAddr (o := 0) Try.underlying66 rfl rfl sz26 rfl) ?_; refine tv (o_load p26 rfl (by repeat (first | with_reducible exact has_here | with_reducible exact has_pt | apply has_left)) rfl) ?_; refine tl_c rfl (o_call bd34 rfl (Size_c (s := s))) ?_; rintro _ _ ⟨rfl, rfl⟩; refine tla ?_; refine nq ?_; refine sr ?_; refine tlm ?_; refine tv (o_lss rfl rfl) ?_; refine tlm ?_; refine tl_bool (d := 30) rfl (fun h => ?_) (fun h => ?_)
    · exfalso; first | (simp at h; done) | (simp at h; omega)
    · try simp only [lv1, lv2, lv3, lv4, lv5, lv6, Bool.not_true, Bool.not_false] at h
      refine tlm ?_; refine tlm ?_; refine tv (o_gtr rfl rfl) ?_; refine tv (o_pick_f rfl (by conv => lhs; whnf)) ?_; refine tlm ?_; refine tl_bool (d := 35) rfl (fun h => ?_) (fun h => ?_)
      · exfalso; first | (simp at h; done) | (simp at h; omega)
      · try simp only [lv1, lv2, lv3, lv4, lv5, lv6, Bool.not_true, Bool.not_false] at h
        refine tlm ?_; refine tv (o_len Try.underlying22 rfl) ?_; refine tlm ?_; refine tlm ?_; refine tv (o_subI rfl rfl (by omega)) ?_; refine tv (o_gtr rfl rfl) ?_; refine tv (o_pick_f rfl (by conv => lhs; whnf)) ?_; refine nq ?_; refine tc_cond rfl (fun h => ?_) (fun h => ?_)
        · exfalso; first | (simp at h; done) | (simp at h; omega)
        · try simp only [lv1, lv2, lv3, lv4, lv5, lv6, Bool.not_true, Bool.not_false] at h
          refine tc_skip ?_; refine q_then_n ?_; refine tc_seq ?_; refine sr ?_; refine tlm ?_; refine tv (o_len Try.underlying22 rfl) ?_; refine tlm ?_; refine nq ?_; refine tc_block ?_; refine tc_loop (fun kk ρ BB => ∃ (i : Nat) (M1 : MS), (i ≤ m) ∧ (MF M1 n (layF q (xs.take i) fr f)) ∧ kk = m - i ∧ ρ 45 = .int .i64 (i : Nat) ∧ ρ 0 = .pointer (some ⟨t, 0, none⟩) ∧ ρ 1 = .int .i64 (q : Nat) ∧ ρ 3 = .bool fr ∧ ρ 43 = .slice a m c ∧ ρ 44 = .int .i64 (m : Nat) ∧ Dr BB (R * pt p (cl (pocs lg d (some t)) 66) * pt lg (cl (lcs11 d at_ sz) 109) * Dev d s * pt t (cl (txcs p mb false) 69) * pt mb (mpo .i64 M1))) (m := m - (0)) ?_ ?_
          · exact ⟨0, M, by omega, by rw [layF_zero]; exact hM, rfl, rfl, rfl, rfl, rfl, rfl, rfl, (by repeat (first | with_reducible exact dr_refl | apply dr_keep | apply dr_drop))⟩
          · intro k ρ B hI
            obtain ⟨i, M1, hp0, hp1, hkk1, hE45, hE0, hE1, hE3, hE43, hE44, hBA⟩ := hI
            refine tc_pre hBA.sat ?_
            clear hBA
            refine tc_env (d := 45) hE45 ?_; refine tc_env (d := 0) hE0 ?_; refine tc_env (d := 1) hE1 ?_; refine tc_env (d := 3) hE3 ?_; refine tc_env (d := 43) hE43 ?_; refine tc_env (d := 44) hE44 ?_
            clear hE45 hE0 hE1 hE3 hE43 hE44
            refine sr ?_; refine tv (o_lss rfl rfl) ?_; refine nq ?_; refine tc_seq ?_; refine tc_cond rfl (fun h => ?_) (fun h => ?_)
            · have hi : i < xs.length := by simp at h; omega
              obtain ⟨x, hx1⟩ : ∃ x, xs[i] = x := ⟨_, rfl⟩
              have hx8 : x < 256 := hx1 ▸ hb _ (List.getElem_mem hi)
              have hlay := mf_lay hp1 hi hx1 hx8 (by omega)
              have hget := hp1.get (q + i)
              obtain ⟨o, ho9⟩ : ∃ o, layF q (xs.take i) fr f (q + i) = o := ⟨_, rfl⟩
              rw [ho9] at hlay hget
              refine tc_skip ?_; refine q_then_n ?_; refine tc_seq ?_; refine tc_block ?_; refine sr ?_; refine tlm ?_; refine tv (o_ixP1 Try.underlying22 sz5 rfl rfl (by first | omega | (simp only [bys_length, ints_length, wds_length, bos_length, List.length_append, List.length_take, List.length_drop, List.length_singleton]; omega)) (by repeat (first | exact nn_some | with_reducible exact nn_sl (by decide) | exact nn_rs (by assumption) (fun _ => by first | omega | (simp only [bys_length, ints_length, wds_length, bos_length, List.length_append, List.length_take, List.length_drop, List.length_singleton]; omega)) | apply Nn.left))) ?_; refine tv (o_ldP p5 rfl (by repeat (first | exact hr | apply Rs.left)) (bys_at hi)) ?_; refine tl_env (d := 49) (v := .int .u8 ((x : Nat) : Int)) (by show Value.int .u8 ((xs[i] : Nat) : Int) = _; rw [hx1]) ?_; refine tla ?_; refine tla ?_; refine nq ?_; refine sr ?_; refine tlm ?_; refine tv (o_nilCheck rfl) ?_; refine tv (o_fieldAddr (o := 1) Try.underlying69 rfl rfl sz67 rfl) ?_; refine tv (o_load p67 rfl (by repeat (first | with_reducible exact has_here | with_reducible exact has_pt | apply has_left)) rfl) ?_; refine tlm ?_
              refine tlm ?_; refine tv (by first | exact o_addI rfl rfl (by omega) | exact o_add rfl rfl) ?_; refine tl_env (d := 57) (v := .int .i64 ((q + i : Nat) : Int)) (by first | rfl | (show Value.int .i64 _ = _; congr 1; omega)) ?_; refine tv (o_lookupOk (ik := .i64) Try.underlying67 Try.underlying3 z71 rfl rfl (by repeat (first | with_reducible exact has_here | with_reducible exact has_pt | apply has_left))) ?_; refine tl_env (d := 58) (v := .tuple #[.agg (cel0 (o.getD (0, false))).toArray, .bool o.isSome]) (by show Value.tuple #[(M1.get ((q + i : Nat) : Int)).getD _, .bool (M1.get ((q + i : Nat) : Int)).isSome] = _; rw [hget]; cases o <;> rfl) ?_; refine tlm ?_; refine tv (o_extract rfl rfl) ?_; refine tv (o_extract rfl rfl) ?_; refine tl_x rfl (o_alloc z71 rfl) ?_; rintro _ _ ⟨b13, rfl, rfl⟩; refine tl_u rfl (o_stUN (l' := cel0 (o.getD (0, false))) rfl (by repeat (first | with_reducible exact upd_here | with_reducible exact upd_pt | apply upd_left)) sz71 rfl rfl rfl (by show 2 ≤ 2; decide) rfl) ?_; refine tla ?_; refine nq ?_; refine tc_seq ?_; refine sr ?_; refine tlm ?_; refine tv (o_not rfl) ?_; refine nq ?_; refine tc_cut (fun ρ BB => ρ 0 = .pointer (some ⟨t, 0, none⟩) ∧ ρ 1 = .int .i64 (q : Nat) ∧ ρ 3 = .bool fr ∧ ρ 11 = .int .i64 (i : Nat) ∧ ρ 12 = .int .u8 ((x : Nat) : Int) ∧ ρ 13 = .pointer (some ⟨b13, 0, none⟩) ∧ ρ 43 = .slice a m c ∧ ρ 44 = .int .i64 (m : Nat) ∧ ρ 45 = .int .i64 (i : Nat) ∧ BB = R * pt p (cl (pocs lg d (some t)) 66) * pt lg (cl (lcs11 d at_ sz) 109) * Dev d s * pt t (cl (txcs p mb false) 69) * pt mb (mpo .i64 M1) * pt b13 (cl [.int .u8 (((o.getD (0, false)).1 : Nat) : Int), .bool ((o.map (·.2)).getD fr)] 71)) ?_ ?_
              · skip
                refine tc_cond rfl (fun h => ?_) (fun h => ?_)
                · obtain rfl : o = none := by cases o <;> simp at h ⊢
                  refine tc_reg ?_; refine tlm ?_; refine tv (o_fieldAddr (o := 1) Try.underlying71 rfl rfl sz4 rfl) ?_; refine tl_u rfl (o_stU (l' := [.int .u8 0, .bool fr]) rfl (by repeat (first | with_reducible exact upd_here | with_reducible exact upd_pt | apply upd_left)) sz4 rfl rfl (by show 1 < 2; decide) rfl) ?_; refine tl_nil ?_; exact ⟨rfl, rfl, rfl, rfl, rfl, rfl, rfl, rfl, rfl, rfl⟩
                · obtain ⟨c0, rfl⟩ : ∃ c0, o = some c0 := by cases o <;> simp at h ⊢
                  refine tc_skip ?_; exact ⟨rfl, rfl, rfl, rfl, rfl, rfl, rfl, rfl, rfl, rfl⟩
              · intro ρ B hI
                obtain ⟨hE0, hE1, hE3, hE11, hE12, hE13, hE43, hE44, hE45, rfl⟩ := hI
                refine q_then_n ?_; refine tc_env (d := 0) hE0 ?_; refine tc_env (d := 1) hE1 ?_; refine tc_env (d := 3) hE3 ?_; refine tc_env (d := 11) hE11 ?_; refine tc_env (d := 12) hE12 ?_; refine tc_env (d := 13) hE13 ?_; refine tc_env (d := 43) hE43 ?_; refine tc_env (d := 44) hE44 ?_; refine tc_env (d := 45) hE45 ?_
                clear hE0 hE1 hE3 hE11 hE12 hE13 hE43 hE44 hE45
                refine sr ?_; refine tlm ?_; refine tv (o_fieldAddr (o := 0) Try.underlying71 rfl rfl sz5 rfl) ?_; refine tl_u rfl (o_stU (l' := cel0 (x, (o.map (·.2)).getD fr)) rfl (by repeat (first | with_reducible exact upd_here | with_reducible exact upd_pt | apply upd_left)) sz5 rfl rfl (by show 0 < 2; decide) rfl) ?_; refine nq ?_; refine tc_regh (S := R * pt p (cl (pocs lg d (some t)) 66) * pt lg (cl (lcs11 d at_ sz) 109) * Dev d s * pt t (cl (txcs p mb false) 69) * pt b13 (cl (cel0 (x, (o.map (·.2)).getD fr)) 71)) mo (by repeat (first | with_reducible exact dr_refl | apply dr_keep | apply dr_drop)) ?_
                show TH _ _ _ _ _ 9 #[ff,ff,ff,ff,ff,ff,ff,ff,ff] _ _
                refine th_take (i := 0) (listed' := #[tt,ff,ff,ff,ff,ff,ff,ff,ff]) rfl (by kernel_rfl) (by kernel_rfl) (by kernel_rfl) rfl rfl (o_move (by conv => lhs; whnf)) ?_; refine th_take (i := 1) (listed' := #[tt,tt,ff,ff,ff,ff,ff,ff,ff]) rfl (by kernel_rfl) (by kernel_rfl) (by kernel_rfl) rfl rfl (o_nilCheck rfl) ?_; refine th_take (i := 2) (listed' := #[tt,tt,tt,ff,ff,ff,ff,ff,ff]) rfl (by kernel_rfl) (by kernel_rfl) (by kernel_rfl) rfl rfl (o_fieldAddr (o := 1) Try.underlying69 rfl rfl sz67 rfl) ?_; refine th_take (i := 3) (listed' := #[tt,tt,tt,tt,ff,ff,ff,ff,ff]) rfl (by kernel_rfl) (by kernel_rfl) (by kernel_rfl) rfl rfl (o_load p67 rfl (by repeat (first | with_reducible exact has_here | with_reducible exact has_pt | apply has_left)) rfl) ?_; refine th_take (i := 4) (listed' := #[tt,tt,tt,tt,tt,ff,ff,ff,ff]) rfl (by kernel_rfl) (by kernel_rfl) (by kernel_rfl) rfl rfl (o_move (by conv => lhs; whnf)) ?_; refine th_take (i := 5) (listed' := #[tt,tt,tt,tt,tt,tt,ff,ff,ff]) rfl (by kernel_rfl) (by kernel_rfl) (by kernel_rfl) rfl rfl (o_move (by conv => lhs; whnf)) ?_; refine th_take (i := 6) (listed' := #[tt,tt,tt,tt,tt,tt,tt,ff,ff]) rfl (by kernel_rfl) (by kernel_rfl) (by kernel_rfl) rfl rfl (by first | exact o_addI rfl rfl (by omega) | exact o_add rfl rfl) ?_; refine th_env (d := 73) (v := .int .i64 ((q + i : Nat) : Int)) (by first | rfl | (show Value.int .i64 _ = _; congr 1; omega)) ?_
                refine th_take (i := 7) (listed' := #[tt,tt,tt,tt,tt,tt,tt,tt,ff]) rfl (by kernel_rfl) (by kernel_rfl) (by kernel_rfl) rfl rfl (o_loadN (vs := cel0 (x, (o.map (·.2)).getD fr)) a71 sz71 rfl (by repeat (first | with_reducible exact has_here | with_reducible exact has_pt | apply has_left)) (by show 2 ≤ 2; decide) rfl) ?_; refine th_one (i := 8) (by kernel_rfl) ?_; refine oh_u (i := 8) (listed' := #[tt,tt,tt,tt,tt,tt,tt,tt,tt]) rfl rfl rfl (o_mapUpdate (ik := .i64) (M := M1) (v := encC (x, (o.map (·.2)).getD fr)) Try.underlying67 Try.underlying3 rfl (by repeat (first | with_reducible exact upd_here | with_reducible exact upd_pt | apply upd_left)) rfl rfl rfl) (by repeat (first | with_reducible exact dr_refl | apply dr_keep | apply dr_drop)) ?_; refine th_done (by kernel_rfl) ?_; refine q_block_n (q_then_n ?_); refine tc_reg ?_; refine tv (by first | exact o_addI rfl rfl (by omega) | exact o_add rfl rfl) ?_; refine tlm ?_; refine nq ?_; exact ⟨_, by omega, i + 1, _, by omega, hlay, rfl, rfl, rfl, rfl, rfl, rfl, rfl, (by repeat (first | with_reducible exact dr_refl | apply dr_keep | apply dr_drop))⟩
            · obtain rfl : i = m := by simp at h; omega
              rw [List.take_of_length_le (show xs.length ≤ i by omega)] at hp1
              refine tc_exit ?_; refine q_then_e (q_then_e (q_block_x (q_then_n ?_))); refine sr ?_; refine tla ?_; refine nq ?_; refine tc_ret ?_; exact ⟨.int .i64 0, C (TxA t p lg d mb at_ sz M1 false s), res1 rfl rfl, (fun g w h => by rw [hC]; exact (Dr.sat (A' := R * pt p (cl (pocs lg d (some t)) 66) * pt lg (cl (lcs11 d at_ sz) 109) * Dev d s * pt t (cl (txcs p mb false) 69) * pt mb (mpo .i64 M1)) (by repeat (first | with_reducible exact dr_refl | apply dr_keep | apply dr_drop)) g w h).perm (by unfold TxA; rw [if_neg (by decide)]; ac_rfl)), M1, rfl, hp1, rfl⟩
end Go.Vl

namespace Go.Proofs
open Go.Shelf
def Try.sortA_ren : Go.Shelf.Ren := ⟨fun | 5 => 49 | 8 => 65 | 7 => 64 | 19 => 87 | 20 => 88 | 10 => 78 | 11 => 79 | 12 => 80 | 13 => 81 | 14 => 82 | 15 => 83 | 16 => 84 | 17 => 85 | 18 => 86 | 30 => 91 | 31 => 92 | 32 => 93 | 33 => 94 | 34 => 95 | 35 => 96 | 40 => 99 | n => n, fun | 23 => 103 | 25 => 3 | 3 => 3 | 32 => 114 | 22 => 103 | 0 => 0 | 44 => 135 | 46 => 81 | 4 => 4 | 36 => 140 | 35 => 139 | 41 => 145 | 5 => 5 | 9 => 9 | 53 => 155 | 57 => 159 | 63 => 161 | 64 => 162 | n => n, fun | n => n⟩
theorem Try.sortA : Go.Proofs.SlLaysM.n5 Try.prog Try.sortA_ren := {
  mixed := by kernel_rfl
  f5 := ⟨Try.f49.name, by decide, Try.func49.trans (congrArg some (by kernel_rfl))⟩
  f7 := ⟨Try.f64.name, by decide, Try.func64.trans (congrArg some (by kernel_rfl))⟩
  f8 := Try.func65.trans (congrArg some (by kernel_rfl))
  f10 := ⟨Try.f78.name, by decide, Try.func78.trans (congrArg some (by kernel_rfl))⟩
  f11 := ⟨Try.f79.name, by decide, Try.func79.trans (congrArg some (by kernel_rfl))⟩
  f12 := ⟨Try.f80.name, by decide, Try.func80.trans (congrArg some (by kernel_rfl))⟩
  f13 := ⟨Try.f81.name, by decide, Try.func81.trans (congrArg some (by kernel_rfl))⟩
  f14 := ⟨Try.f82.name, by decide, Try.func82.trans (congrArg some (by kernel_rfl))⟩
  f15 := ⟨Try.f83.name, by decide, Try.func83.trans (congrArg some (by kernel_rfl))⟩
  f16 := ⟨Try.f84.name, by decide, Try.func84.trans (congrArg some (by kernel_rfl))⟩
  f17 := ⟨Try.f85.name, by decide, Try.func85.trans (congrArg some (by kernel_rfl))⟩
  f18 := ⟨Try.f86.name, by decide, Try.func86.trans (congrArg some (by kernel_rfl))⟩
  f19 := Try.func87.trans (congrArg some (by kernel_rfl))
  f20 := Try.func88.trans (congrArg some (by kernel_rfl))
  f30 := ⟨Try.f91.name, by decide, Try.func91.trans (congrArg some (by kernel_rfl))⟩
  f31 := Try.func92.trans (congrArg some (by kernel_rfl))
  f32 := Try.func93.trans (congrArg some (by kernel_rfl))
  f33 := ⟨Try.f94.name, by decide, Try.func94.trans (congrArg some (by kernel_rfl))⟩
  f34 := ⟨Try.f95.name, by decide, Try.func95.trans (congrArg some (by kernel_rfl))⟩
  f35 := ⟨Try.f96.name, by decide, Try.func96.trans (congrArg some (by kernel_rfl))⟩
  f40 := ⟨Try.f99.name, by decide, Try.func99.trans (congrArg some (by kernel_rfl))⟩
  t0 := Try.underlying0
  a0 := Try.isAgg0
  z0 := Try.sizeOf0
  v0 := Try.zeroValue0
  t3 := Try.underlying3
  a3 := Try.isAgg3
  z3 := Try.sizeOf3
  v3 := Try.zeroValue3
  t4 := Try.underlying4
  a4 := Try.isAgg4
  z4 := Try.sizeOf4
  v4 := Try.zeroValue4
  t5 := Try.underlying5
  a5 := Try.isAgg5
  z5 := Try.sizeOf5
  v5 := Try.zeroValue5
  t9 := Try.underlying9
  a9 := Try.isAgg9
  z9 := Try.sizeOf9
  v9 := Try.zeroValue9
  t22 := Try.underlying103
  a22 := Try.isAgg103
  z22 := Try.sizeOf103
  v22 := Try.zeroValue103
  t23 := Try.underlying103
  a23 := Try.isAgg103
  z23 := Try.sizeOf103
  v23 := Try.zeroValue103
  t25 := Try.underlying3
  a25 := Try.isAgg3
  z25 := Try.sizeOf3
  v25 := Try.zeroValue3
  t32 := Try.underlying114
  a32 := Try.isAgg114
  z32 := Try.sizeOf114
  v32 := Try.zeroValue114
  t35 := Try.underlying139
  a35 := Try.isAgg139
  z35 := Try.sizeOf139
  v35 := Try.zeroValue139
  t36 := Try.underlying140
  a36 := Try.isAgg140
  z36 := Try.sizeOf140
  v36 := Try.zeroValue140
  t41 := Try.underlying145
  a41 := Try.isAgg145
  z41 := Try.sizeOf145
  v41 := Try.zeroValue145
  t44 := Try.underlying135
  a44 := Try.isAgg135
  z44 := Try.sizeOf135
  v44 := Try.zeroValue135
  t46 := Try.underlying81
  a46 := Try.isAgg81
  z46 := Try.sizeOf81
  v46 := Try.zeroValue81
  t53 := Try.underlying155
  a53 := Try.isAgg155
  z53 := Try.sizeOf155
  v53 := Try.zeroValue155
  t57 := Try.underlying159
  a57 := Try.isAgg159
  z57 := Try.sizeOf159
  v57 := Try.zeroValue159
  t63 := Try.underlying161
  a63 := Try.isAgg161
  z63 := Try.sizeOf161
  v63 := Try.zeroValue161
  t64 := Try.underlying162
  a64 := Try.isAgg162
  z64 := Try.sizeOf162
  v64 := Try.zeroValue162 }
end Go.Proofs

namespace Go.Vl
open Go Go.Proofs
theorem sat_ext {g : Gh} {w w' : World} {A : SP} (h : sat g w A) (hh : ∀ (k : Nat) (o : Obj), w.heap[k]? = some o → w'.heap[k]? = some o) (h1 : w'.os = w.os) (h2 : w'.tape = w.tape) (h3 : w'.output = w.output) : sat g w' A :=
  ⟨h1.trans h.os, h2.trans h.tape, h3.trans h.out, let ⟨x, ha, hx⟩ := h.hp; ⟨x, ha, fun b o f hb => hh _ _ (hx b o f hb)⟩⟩
def putL (off : Nat) (ys : List Value) (L : List Value) : List Value := L.mapIdx fun k x => if off ≤ k ∧ k < off + ys.length then ys.getD (k - off) x else x
theorem putL_len (off : Nat) (ys L : List Value) : (putL off ys L).length = L.length := by simp [putL]
theorem putL_sub {off : Nat} {ys L : List Value} (h : off + ys.length ≤ L.length) : ((putL off ys L).drop off).take ys.length = ys := by
  apply List.ext_getElem?
  intro j
  rw [List.getElem?_take, List.getElem?_drop]
  by_cases hj : j < ys.length
  · rw [if_pos hj]
    unfold putL
    rw [List.getElem?_mapIdx, List.getElem?_eq_getElem (show off + j < L.length by omega)]
    simp only [Option.map_some]
    rw [if_pos (by omega), show off + j - off = j by omega, List.getD_eq_getElem?_getD, List.getElem?_eq_getElem hj]; rfl
  · rw [if_neg hj, List.getElem?_eq_none (by omega)]
theorem Sort_c {A R : SP} {C : SP → SP} {a : Option Addr} {c m : Nat} {zs : List Int} (hc : Ct A (Sl 1 (.slice a m c) m (ints zs)) R C := by repeat (first | with_reducible exact ct_here | apply ct_left)) (hm : zs.length = m := by first | assumption | rfl) (hl : m < 4611686018427387904 := by omega) :
    Fn Try.prog 49 #[.slice a m c] A (fun v B => v = .tuple #[] ∧ B = C (Sl 1 (.slice a m c) m (ints (zs.mergeSort fun x y => decide (x ≤ y))))) := by
  obtain ⟨rfl, hC⟩ := hc
  subst hm
  intro g w hs
  obtain ⟨h1, ⟨e1, e2, e3⟩ | ⟨b, off, cap, L, E, e1, h2, h3, h4, hs'⟩⟩ := sl_iff.1 hs
  · simp only [Value.slice.injEq] at e1
    obtain ⟨rfl, _, rfl⟩ := e1
    obtain rfl := List.eq_nil_of_length_eq_zero e2
    refine (Go.Proofs.AnyM.slices_Sort_int_none Go.Proofs.Try.sortA none 0 w).mono ?_; rintro e w' ⟨rfl, rfl⟩; exact ⟨_, _, rfl, ⟨rfl, rfl⟩, by rw [hC, List.mergeSort_nil]; exact hs⟩
  · simp only [Value.slice.injEq] at e1
    obtain ⟨rfl, _, rfl⟩ := e1
    have hb : w.heap[b]? = some (cl L E) := has_here g w hs'
    have hblk : b < w.heap.size := by
      rcases Nat.lt_or_ge b w.heap.size with h | h
      · exact h
      · rw [Array.getElem?_eq_none h] at hb; cases hb
    have hsz : off + zs.length ≤ L.length := by omega
    have hH : Go.Sort.Holds (Value.int .i64) w b off zs.toArray := fun j hj => by
      have hj' : j < zs.length := by simpa using hj
      refine ⟨?_, frozen_cl hb _⟩
      have h5 : (L.drop off)[j]? = some (.int .i64 zs[j]) := by
        have h6 := congrArg (fun l : List Value => l[j]?) h4
        simp only [List.getElem?_take] at h6
        rw [if_pos (by omega)] at h6
        rw [h6]; exact ints_at hj'
      rw [List.getElem?_drop] at h5
      simp [World.cell?, hb, cl, h5, hj']
    refine (Go.Proofs.AnyM.slices_Sort_int Go.Proofs.Try.sortA b off c zs w hH hblk hl).mono ?_; rintro e w' ⟨rfl, n, os, rfl⟩
    have hml : (zs.mergeSort fun x y => decide (x ≤ y)).length = zs.length := List.length_mergeSort _
    have hil : (ints (zs.mergeSort fun x y => decide (x ≤ y))).length = zs.length := by rw [ints_length, hml]
    refine ⟨_, _, rfl, ⟨rfl, rfl⟩, ?_⟩
    rw [hC]
    have hup : Upd (R * pt b (cl L E)) b (cl L E) (cl (putL off (ints (zs.mergeSort fun x y => decide (x ≤ y))) L) E) (R * pt b (cl (putL off (ints (zs.mergeSort fun x y => decide (x ≤ y))) L) E)) := upd_here
    have hobj : (Go.Sort.putRow (Value.int .i64) (Go.Sort.ahead w n) b off (zs.mergeSort fun x y => decide (x ≤ y)).toArray).heap = w.heap.setIfInBounds b (cl (putL off (ints (zs.mergeSort fun x y => decide (x ≤ y))) L) E) := by
      unfold Go.Sort.putRow Go.Sort.mapBlock
      show w.heap.modify b _ = _
      apply Array.ext_getElem?
      intro k
      rw [Array.getElem?_modify, Array.getElem?_setIfInBounds]
      by_cases hk : b = k
      · subst hk
        rw [if_pos rfl, if_pos rfl, hb, if_pos hblk]
        simp only [Option.map_some, Option.some.injEq, cl, Go.Sort.onCells, Obj.cells.injEq, and_true]
        apply Array.ext'
        unfold Go.Sort.putCells putL
        simp only [Array.toList_mapIdx, List.size_toArray, hil, hml]
        apply List.ext_getElem?
        intro j
        simp only [List.getElem?_mapIdx]
        cases hj : L[j]? with
        | none => rfl
        | some x =>
          simp only [Option.map_some, Option.some.injEq]
          split
          · rename_i hjj
            have h7 : j - off < (zs.mergeSort fun x y => decide (x ≤ y)).length := by omega
            rw [List.getD_eq_getElem?_getD, ints_at h7]
            simp only [List.getElem!_toArray, Option.getD_some]
            rw [getElem!_pos (zs.mergeSort fun x y => decide (x ≤ y)) (j - off) h7]
          · rfl
      · rw [if_neg hk, if_neg hk]
    have hs1 : sat g (Go.Sort.putRow (Value.int .i64) (Go.Sort.ahead w n) b off (zs.mergeSort fun x y => decide (x ≤ y)).toArray) (R * pt b (cl (putL off (ints (zs.mergeSort fun x y => decide (x ≤ y))) L) E)) :=
      hup.sat hs' (fun k => by rw [hobj]; exact set_heap hb k) rfl rfl rfl
    have hs2 : sat g (Go.Sort.grow (Go.Sort.putRow (Value.int .i64) (Go.Sort.ahead w n) b off (zs.mergeSort fun x y => decide (x ≤ y)).toArray) os) (R * pt b (cl (putL off (ints (zs.mergeSort fun x y => decide (x ≤ y))) L) E)) :=
      sat_ext hs1 (fun k o hk => by
        have hlt : k < (Go.Sort.putRow (Value.int .i64) (Go.Sort.ahead w n) b off (zs.mergeSort fun x y => decide (x ≤ y)).toArray).heap.size := by
          rcases Nat.lt_or_ge k (Go.Sort.putRow (Value.int .i64) (Go.Sort.ahead w n) b off (zs.mergeSort fun x y => decide (x ≤ y)).toArray).heap.size with h | h
          · exact h
          · rw [Array.getElem?_eq_none h] at hk; cases hk
        show (_ ++ os)[k]? = _
        rw [Array.getElem?_append_left hlt]; exact hk) rfl rfl rfl
    refine sl_iff.2 ⟨by rw [hil]; omega, .inr ⟨b, off, c, _, E, rfl, h2, by rw [putL_len]; exact h3, ?_, hs2⟩⟩
    have h8 := putL_sub (off := off) (ys := ints (zs.mergeSort fun x y => decide (x ≤ y))) (L := L) (by rw [hil]; exact hsz)
    rw [hil] at h8; rw [Nat.mul_one]; exact h8
end Go.Vl

namespace Go.Vl
open Go Go.Proofs
def adjB (out : List (Nat × List Nat)) (a : Nat) : Bool := match out.getLast? with
  | some r => decide (r.1 + r.2.length = a)
  | none => false
theorem list_snoc {α : Type} {l : List α} (h : 0 < l.length) : ∃ O r, l = O ++ [r] := ⟨l.dropLast, l.getLast (List.length_pos_iff.1 h), (List.dropLast_concat_getLast _).symm⟩
theorem adjB_snoc (O : List (Nat × List Nat)) (r : Nat × List Nat) (a : Nat) : adjB (O ++ [r]) a = decide (r.1 + r.2.length = a) := by unfold adjB; rw [List.getLast?_concat]
theorem adj_t {f : TF} {out : List (Nat × List Nat)} {a : Nat} (h : adjB out a = true) : ∃ O r, out = O ++ [r] ∧ r.1 + r.2.length = a ∧ runA f out a = O ++ [(r.1, r.2 ++ [byF f a])] := by
  rcases Nat.eq_zero_or_pos out.length with h0 | h0
  · rw [List.eq_nil_of_length_eq_zero h0] at h; cases h
  · obtain ⟨O, r, rfl⟩ := list_snoc h0
    rw [adjB_snoc] at h
    have h1 := of_decide_eq_true h
    refine ⟨O, r, rfl, h1, ?_⟩
    unfold runA; rw [List.getLast?_concat]; simp only []; rw [if_pos h1, List.dropLast_concat]
theorem adj_f {f : TF} {out : List (Nat × List Nat)} {a : Nat} (h : adjB out a = false) : runA f out a = out ++ [(a, [byF f a])] := by
  rcases Nat.eq_zero_or_pos out.length with h0 | h0
  · rw [List.eq_nil_of_length_eq_zero h0]; rfl
  · obtain ⟨O, r, rfl⟩ := list_snoc h0
    rw [adjB_snoc] at h
    unfold runA; rw [List.getLast?_concat]; simp only []; rw [if_neg (of_decide_eq_false h)]
theorem adr_at {n : Nat} {k : Bool} {f : TF} {i : Nat} (h : i < (adrF n k f).length) : ∃ c, f ((adrF n k f)[i]) = some c ∧ c.2 = k ∧ (adrF n k f)[i] < n := by
  obtain ⟨h1, h2⟩ := adr_mem.1 (List.getElem_mem h)
  have h3 := of_decide_eq_true h2
  cases hf : f ((adrF n k f)[i]) with
  | none => rw [hf] at h3; cases h3
  | some c => rw [hf] at h3; simp only [Option.map_some, Option.some.injEq] at h3; exact ⟨c, rfl, h3, h1⟩
theorem sl_some {k : Nat} {a : Option Addr} {m c : Nat} {xs : List Value} {R : SP} {g : Gh} {w : World} (hs : sat g w (R * Sl k (.slice a m c) m xs)) (h : 0 < m) : ∃ b o, a = some ⟨b, o, none⟩ := by
  obtain ⟨_, ⟨e1, e2, _⟩ | ⟨b, off, cap, L, E, e1, _⟩⟩ := sl_iff.1 hs
  · omega
  · simp only [Value.slice.injEq] at e1; exact ⟨b, off, e1.1⟩
theorem adr_len (n : Nat) (k : Bool) (f : TF) : (adrF n k f).length ≤ n := by unfold adrF; exact Nat.le_trans (List.length_filter_le _ _) (by rw [List.length_range]; exact Nat.le_refl _)
theorem parts_last {O : List (Nat × List Nat)} {r : Nat × List Nat} {vs : List Value} (h : vs.length = (O ++ [r]).length) (hps : ∀ k, k < (O ++ [r]).length → ∃ b c, vs.getD k (.slice none 0 0) = .slice b ((O ++ [r]).getD k (0, [])).2.length c ∧ ((O ++ [r]).getD k (0, [])).2.length ≤ c) :
    ∃ V xb xc, vs = V ++ [.slice xb r.2.length xc] ∧ V.length = O.length ∧ r.2.length ≤ xc := by
  rw [List.length_append, List.length_singleton] at h
  obtain ⟨V, v, rfl⟩ := list_snoc (l := vs) (by omega)
  rw [List.length_append, List.length_singleton] at h
  have hV : V.length = O.length := by omega
  obtain ⟨b, c, h1, h2⟩ := hps O.length (by rw [List.length_append, List.length_singleton]; omega)
  have e1 : (V ++ [v]).getD O.length (.slice none 0 0) = v := by rw [← hV, List.getD_eq_getElem?_getD]; simp
  have e2 : (O ++ [r]).getD O.length (0, []) = r := by rw [List.getD_eq_getElem?_getD]; simp
  rw [e1, e2] at h1
  rw [e2] at h2
  exact ⟨V, b, c, by rw [h1], hV, h2⟩
theorem kcl_set {O : List (Nat × List Nat)} {V : List Value} {r : Nat × List Nat} {v u : Value} (h : V.length = O.length) (ys : List Nat) : (kcl (O ++ [r]) (V ++ [v])).set (O.length * 2 + 1) u = kcl (O ++ [(r.1, ys)]) (V ++ [u]) := by
  rw [kcl_snoc h, kcl_snoc h]
  have hl := kcl_len h
  rw [List.set_append, if_neg (by omega), hl, show O.length * 2 + 1 - O.length * 2 = 1 by omega]; rfl
theorem runs_next {n : Nat} {k : Bool} {f : TF} {i : Nat} {out : List (Nat × List Nat)} (h : runsL f ((adrF n k f).take i) = out) (hi : i < (adrF n k f).length) : runsL f ((adrF n k f).take (i + 1)) = runA f out ((adrF n k f)[i]) := by
  rw [List.take_succ_eq_append_getElem hi, runsL_snoc, h]
theorem kcl_l1 {O : List (Nat × List Nat)} {V : List Value} {r : Nat × List Nat} {v : Value} (h : V.length = O.length) : (kcl (O ++ [r]) (V ++ [v]))[O.length * 2 + 1]? = some v := by
  rw [kcl_snoc h, List.getElem?_append_right (by rw [kcl_len h]; omega), kcl_len h, show O.length * 2 + 1 - O.length * 2 = 1 by omega]; rfl
theorem kcl_l0 {O : List (Nat × List Nat)} {V : List Value} {r : Nat × List Nat} {v : Value} (h : V.length = O.length) : (kcl (O ++ [r]) (V ++ [v]))[O.length * 2 + 0]? = some (.int .i64 (r.1 : Nat)) := by
  rw [kcl_snoc h, List.getElem?_append_right (by rw [kcl_len h]; omega), kcl_len h, show O.length * 2 + 0 - O.length * 2 = 0 by omega]; rfl
theorem byF_some {f : TF} {a : Nat} {c : Nat × Bool} (h : f a = some c) : byF f a = c.1 := by unfold byF; rw [h]; rfl
theorem isK_some {f : TF} {a : Nat} {c : Nat × Bool} (h : f a = some c) (k : Bool) : isK f k a = (c.2 == k) := by
  unfold isK; rw [h]; simp only [Option.map_some, Option.some.injEq]
  cases c.2 <;> cases k <;> rfl
attribute [local irreducible] crk crL crc Sl pt ro Dev imgS recS readS recsF rdW rdO rkT Parts rvl recordsS runsL adrF kcl kys runA
set_option maxRecDepth 20000 in
set_option maxHeartbeats 2000000 in
theorem runs12_c {A : SP} {p t mb n : Nat} {over : Bool} {M : MS} {f : TF} {kd : Bool} (ht : Has A t (cl (txcs p mb over) 69) := by (repeat (first | assumption | with_reducible exact has_here | with_reducible exact has_pt | apply has_left))) (hmb : Has A mb (mpo .i64 M) := by (repeat (first | assumption | with_reducible exact has_here | with_reducible exact has_pt | apply has_left))) (hM : MF M n f) (hn : n ≤ 4194304 := by omega) :
    Fn Try.prog 30 #[.pointer (some ⟨t, 0, none⟩), .bool kd] (A) (fun r B => ∃ a c vs, r = .slice a (runsF n kd f).length c ∧ (runsF n kd f).length ≤ c ∧ vs.length = (runsF n kd f).length ∧ B = A * Parts vs ((runsF n kd f).map (·.2)) * Sl 2 (.slice a (runsF n kd f).length c) (runsF n kd f).length (kcl (runsF n kd f) vs)) := by
  refine fn_enterW (args := [.pointer (some ⟨t, 0, none⟩), .bool kd]) Try.func30 rfl Try.ntmps30 (by simp) ?_
  have hDl : M.D.length ≤ n := mf_len hM
  have hal := adr_len n kd f
  refine sr ?_; refine tla ?_; refine nq ?_; refine sr ?_; refine tla ?_; refine nq ?_; refine tc_seq ?_; refine sr ?_; refine tlm ?_; refine tv (o_nilCheck rfl) ?_; refine tv (o_fieldAddr (o := 1) Try.underlying69 rfl rfl sz67 rfl) ?_; refine tv (o_load p67 rfl ht rfl) ?_; refine tl_x rfl (o_range (ik := .i64) Try.underlying67 rfl hmb) ?_; rintro _ _ ⟨r16, rfl, rfl⟩; refine nq ?_; refine tc_block ?_; refine tc_pre (A' := A * pt r16 (mit mb M.c (([] : List ME).map ME.b) M.c) * Sl 1 (.slice none 0 0) 0 []) (fun _ _ h => sl_nil h) ?_; refine tc_loop (fun kk ρ BB => ∃ (vis : List ME) (a5 : Option Addr) (c5 : Nat), (Vis M vis) ∧ ((kys f kd vis).length ≤ c5) ∧ kk = M.D.length - vis.length ∧ ρ 5 = .slice a5 (kys f kd vis).length c5 ∧ ρ 0 = .pointer (some ⟨t, 0, none⟩) ∧ ρ 1 = .bool kd ∧ ρ 16 = .pointer (some ⟨r16, 0, none⟩) ∧ Dr BB (A * pt r16 (mit mb M.c (vis.map ME.b) M.c) * Sl 1 (.slice a5 (kys f kd vis).length c5) (kys f kd vis).length (ints (kys f kd vis)))) (m := M.D.length - (([] : List ME)).length) ?_ ?_
  · exact ⟨([] : List ME), none, 0, vis_nil M, by rw [kys_nil]; exact Nat.le_refl _, rfl, by rw [kys_nil]; rfl, rfl, rfl, rfl, by rw [kys_nil]; exact dr_refl⟩
  · intro k ρ B hI
    obtain ⟨vis, a5, c5, hp0, hp1, hkk1, hE5, hE0, hE1, hE16, hBA⟩ := hI
    refine tc_pre hBA.sat ?_
    clear hBA
    refine tc_env (d := 5) hE5 ?_; refine tc_env (d := 0) hE0 ?_; refine tc_env (d := 1) hE1 ?_; refine tc_env (d := 16) hE16 ?_
    clear hE5 hE0 hE1 hE16
    refine sr ?_; refine tl_x rfl (o_next (ik := .i64) (M := M) (b := mb) (seen := vis.map ME.b) hM.wf rfl (by repeat (first | with_reducible exact ct_here | apply ct_left)) (by repeat (first | assumption | apply has_left))) ?_; rintro _ _ ⟨o17, hnx, rfl, rfl⟩; refine tv (o_exNx rfl) ?_; refine nq ?_; refine tc_seq ?_; refine tc_cond rfl (fun h => ?_) (fun h => ?_)
    · obtain ⟨e, rfl⟩ : ∃ e, o17 = some e := Option.isSome_iff_exists.1 (by simpa using h)
      have hvs2 := vis_snoc hp0 hnx
      have hvl := vis_len hvs2
      have hvl2 : (vis ++ [e]).length = vis.length + 1 := by rw [List.length_append, List.length_singleton]
      have hem := (hnx.yes e rfl).1
      obtain ⟨a, c0, ha, hk, hf, hv⟩ := mf_val hM hem
      have hky := kys_snoc f kd vis e
      rw [hk, Int.toNat_natCast, isK_some hf] at hky
      have hkl := kys_len f kd vis
      refine tc_eq (show _ = A * pt r16 (mit mb M.c (vis.map ME.b ++ [e.b]) M.c) * Sl 1 (.slice a5 (kys f kd vis).length c5) (kys f kd vis).length (ints (kys f kd vis)) from rfl) ?_; refine tc_skip ?_; refine q_then_n ?_; refine tc_block ?_; refine sr ?_; refine tv (o_entry (ik := .i64) (M := M) (b := mb) (seen := vis.map ME.b) hM.wf hem rfl (by repeat (first | with_reducible exact has_here | apply has_left)) (by repeat (first | assumption | apply has_left))) ?_; refine tl_env (d := 19) (v := .tuple #[.int .i64 ((a : Nat) : Int), .agg (cel0 c0).toArray]) (by rw [hk, hv]; rfl) ?_; refine tv (o_extract rfl rfl) ?_; refine tv (o_extract rfl rfl) ?_; refine tl_x rfl (o_alloc z71 rfl) ?_; rintro _ _ ⟨b7, rfl, rfl⟩; refine tla ?_; refine tl_u rfl (o_stUN (l' := cel0 c0) rfl (by repeat (first | with_reducible exact upd_here | with_reducible exact upd_pt | apply upd_left)) sz71 rfl rfl rfl (by show 2 ≤ 2; decide) rfl) ?_; refine nq ?_; refine sr ?_; refine tv (o_fieldAddr (o := 1) Try.underlying71 rfl rfl sz4 rfl) ?_; refine tv (o_load p4 rfl (by repeat (first | with_reducible exact has_here | with_reducible exact has_pt | apply has_left)) rfl) ?_; refine tlm ?_; refine tv (o_eqb Try.underlying4 rfl rfl) ?_; refine tl_env (d := 25) (v := .bool (c0.2 == kd)) (by first | rfl | (cases c0.2 <;> cases kd <;> rfl)) ?_
      refine nq ?_; refine tc_cut (fun ρ BB => ∃ (aj : Option Addr) (cj : Nat), ((kys f kd (vis ++ [e])).length ≤ cj) ∧ ρ 5 = .slice aj (kys f kd (vis ++ [e])).length cj ∧ ρ 0 = .pointer (some ⟨t, 0, none⟩) ∧ ρ 1 = .bool kd ∧ ρ 16 = .pointer (some ⟨r16, 0, none⟩) ∧ Dr BB (A * pt r16 (mit mb M.c (vis.map ME.b ++ [e.b]) M.c) * Sl 1 (.slice aj (kys f kd (vis ++ [e])).length cj) (kys f kd (vis ++ [e])).length (ints (kys f kd (vis ++ [e]))))) ?_ ?_
      · skip
        refine tc_cond rfl (fun h => ?_) (fun h => ?_)
        · rw [if_pos h] at hky
          refine tc_reg ?_; refine tlm ?_; refine tlm ?_; refine tl_x rfl (o_buildSlice1 Try.underlying103 sz3 z3 (by conv => lhs; whnf) rfl) ?_; rintro _ _ ⟨b28, rfl, rfl⟩; refine tl_x rfl (o_apB Try.underlying103 Try.underlying103 sz3 by3 z3 rfl (by decide) (by decide) rfl rfl rfl (by repeat (first | with_reducible exact ct_here | apply ct_left)) rfl (by first | exact bys_all _ | exact ints_all _ | exact wds_all _ | exact bos_all _ | rfl) (by first | omega | (simp only [bys_length, ints_length, wds_length, bos_length, List.length_append, List.length_take, List.length_drop, List.length_singleton]; omega)) (by first | exact bys_sn _ _ | exact ints_sn _ _ | exact wds_sn _ _ | exact bos_sn _ _ | exact (bys_append _ _).symm | rfl)) ?_; rintro _ _ ⟨a29, c29, rfl, hc29, rfl⟩; refine tla ?_; refine tl_nil ?_; exact ⟨a29, c29, by rw [hky]; first | exact hp1 | (rw [List.length_append]; exact hc29), by rw [hky]; first | rfl | (rw [List.length_append]; rfl), rfl, rfl, rfl, by first | (rw [hky, List.length_append, List.length_singleton]; exact dr_drop dr_refl) | (rw [hky]; exact dr_drop dr_refl)⟩
        · rw [if_neg (by rw [h]; decide), List.append_nil] at hky
          refine tc_skip ?_; exact ⟨a5, c5, by rw [hky]; first | exact hp1 | (rw [List.length_append]; exact hc29), by rw [hky]; first | rfl | (rw [List.length_append]; rfl), rfl, rfl, rfl, by first | (rw [hky, List.length_append, List.length_singleton]; exact dr_drop dr_refl) | (rw [hky]; exact dr_drop dr_refl)⟩
      · intro ρ B hI
        obtain ⟨aj, cj, hj0, hE5, hE0, hE1, hE16, hBA⟩ := hI
        refine q_block_n (q_then_n ?_); exact ⟨_, by omega, vis ++ [e], aj, cj, hvs2, hj0, rfl, hE5, hE0, hE1, hE16, by rw [show (vis ++ [e]).map ME.b = vis.map ME.b ++ [e.b] by rw [List.map_append]; rfl]; exact hBA⟩
    · obtain rfl : o17 = none := by cases o17 <;> simp at h ⊢
      have hvp := vis_perm hM.wf hp0 hnx
      have hks := kys_sort (k := kd) hM hvp
      have hkl := kys_len f kd vis
      have hvl := vis_len hp0
      have hkn : (kys f kd vis).length = (adrF n kd f).length := by have h9 := congrArg List.length hks; rw [List.length_mergeSort, List.length_map] at h9; exact h9
      refine tc_exit ?_; refine q_then_e (q_then_e (q_block_x (q_then_n ?_))); refine sr ?_; refine tlm ?_; refine tl_c rfl (o_call bd49 rfl (Sort_c (zs := kys f kd vis))) ?_; rintro _ _ ⟨rfl, rfl⟩
      rw [hks]
      refine nq ?_; refine sr ?_; refine tla ?_; refine nq ?_; refine tc_seq ?_; refine sr ?_; refine tlm ?_; refine tv (o_len Try.underlying103 rfl) ?_; refine tlm ?_; refine nq ?_; refine tc_block ?_; refine tc_pre (A' := A * Sl 1 (.slice a5 (kys f kd vis).length c5) (kys f kd vis).length (ints ((adrF n kd f).map fun a : Nat => (a : Int))) * Parts [] [] * Sl 2 (.slice none 0 0) 0 []) (fun g w h => sl_nil (show sat g w (A * Sl 1 (.slice a5 (kys f kd vis).length c5) (kys f kd vis).length (ints ((adrF n kd f).map fun a : Nat => (a : Int))) * Parts [] []) by rw [show Parts [] [] = emp by unfold Parts; rfl, star_emp]; exact Dr.sat (by repeat (first | with_reducible exact dr_refl | apply dr_keep | apply dr_drop)) g w h)) ?_; refine tc_loop (fun kk ρ BB => ∃ (i : Nat) (out : List (Nat × List Nat)) (vs : List Value) (a8 : Option Addr) (c8 : Nat), (i ≤ (adrF n kd f).length) ∧ (runsL f ((adrF n kd f).take i) = out) ∧ (vs.length = out.length) ∧ (out.length ≤ c8) ∧ (out.length ≤ i) ∧ (∀ r ∈ out, r.1 + r.2.length ≤ n) ∧ kk = (adrF n kd f).length - i ∧ ρ 8 = .slice a8 out.length c8 ∧ ρ 34 = .int .i64 (i : Nat) ∧ ρ 0 = .pointer (some ⟨t, 0, none⟩) ∧ ρ 32 = .slice a5 (kys f kd vis).length c5 ∧ ρ 33 = .int .i64 ((kys f kd vis).length : Nat) ∧ Dr BB (A * Sl 1 (.slice a5 (kys f kd vis).length c5) (kys f kd vis).length (ints ((adrF n kd f).map fun a : Nat => (a : Int))) * Parts vs (out.map (·.2)) * Sl 2 (.slice a8 out.length c8) out.length (kcl out vs))) (m := (adrF n kd f).length - (0)) ?_ ?_
      · exact ⟨0, [], [], none, 0, by omega, by rw [List.take_zero]; unfold runsL; rfl, rfl, Nat.le_refl _, Nat.le_refl _, fun r h => (by cases h), rfl, rfl, rfl, rfl, rfl, rfl, by rw [kcl_nil]; exact dr_refl⟩
      · intro k ρ B hI
        obtain ⟨i, out, vs, a8, c8, hq0, hq1, hq2, hq3, hq4, hq5, hkk2, hE8, hE34, hE0, hE32, hE33, hBA⟩ := hI
        refine tc_pre hBA.sat ?_
        clear hBA
        refine tc_env (d := 8) hE8 ?_; refine tc_env (d := 34) hE34 ?_; refine tc_env (d := 0) hE0 ?_; refine tc_env (d := 32) hE32 ?_; refine tc_env (d := 33) hE33 ?_
        clear hE8 hE34 hE0 hE32 hE33
        refine sr ?_; refine tv (o_lss rfl rfl) ?_; refine nq ?_; refine tc_seq ?_; refine tc_cond rfl (fun h => ?_) (fun h => ?_)
        · have hi : i < (adrF n kd f).length := by simp at h; omega
          obtain ⟨c0, hf, hck, han⟩ := adr_at hi
          obtain ⟨a, haq⟩ : ∃ a, (adrF n kd f)[i] = a := ⟨_, rfl⟩
          have hbya := byF_some hf
          have hget := hM.get ((adrF n kd f)[i])
          rw [hf] at hget
          refine tc_have (fun _ _ h => parts_getD hq2 h.left) fun hps => ?_; refine tc_skip ?_; refine q_then_n ?_; refine tc_seq ?_; refine tc_block ?_; refine sr ?_; refine tv (o_ixP1 Try.underlying103 sz3 rfl rfl (by omega) (nn_rs (xs := ints ((adrF n kd f).map fun a : Nat => (a : Int))) (by repeat (first | with_reducible exact rs_sl | apply Rs.left)) (by rw [ints_length, List.length_map]; omega))) ?_; refine tv (o_ldP (xs := ints ((adrF n kd f).map fun a : Nat => (a : Int))) p3 rfl (by repeat (first | with_reducible exact rs_sl | apply Rs.left)) (ints_at (by rw [List.length_map]; exact hi))) ?_; refine tl_env (d := 37) (v := .int .i64 ((((adrF n kd f)[i]'(by omega)) : Nat) : Int)) (by show Value.int .i64 _ = _; rw [List.getElem_map]) ?_; refine tla ?_; refine nq ?_; refine tc_seq ?_; refine sr ?_; refine tlm ?_; refine tv (o_len Try.underlying73 rfl) ?_; refine tv (o_subI rfl rfl (by omega)) ?_; refine tla ?_; refine nq ?_; refine tc_seq ?_; refine tc_cut (fun ρ BB => ∃ (bb : Bool), (bb = adjB out ((adrF n kd f)[i]'(by omega))) ∧ ρ 58 = .bool bb ∧ ρ 0 = .pointer (some ⟨t, 0, none⟩) ∧ ρ 8 = .slice a8 out.length c8 ∧ ρ 10 = .int .i64 ((((adrF n kd f)[i]'(by omega)) : Nat) : Int) ∧ ρ 11 = .int .i64 ((out.length : Int) - 1) ∧ ρ 32 = .slice a5 (kys f kd vis).length c5 ∧ ρ 33 = .int .i64 ((kys f kd vis).length : Nat) ∧ ρ 34 = .int .i64 (i : Nat) ∧ Dr BB (A * Sl 1 (.slice a5 (kys f kd vis).length c5) (kys f kd vis).length (ints ((adrF n kd f).map fun a : Nat => (a : Int))) * Parts vs (out.map (·.2)) * Sl 2 (.slice a8 out.length c8) out.length (kcl out vs))) ?_ ?_
          · skip
            refine tc_regq mo (by kernel_rfl) ?_; refine ql_v rfl (o_move (by conv => lhs; whnf)) ?_; refine ql_v rfl (o_geq rfl rfl) ?_; refine ql_v rfl (o_move (by conv => lhs; whnf)) ?_; refine ql_bool (d := 43) rfl (fun h => ?_) (fun h => ?_)
            · have hne : 0 < out.length := by simp at h; omega
              obtain ⟨O, r_, hO⟩ := list_snoc hne
              obtain ⟨V, xb, xc, hV, hVl, hxc⟩ := parts_last (O := O) (r := r_) (by rw [← hO]; exact hq2) (by rw [← hO]; exact hps)
              have hOl : out.length - 1 = O.length := by rw [hO, List.length_append, List.length_singleton]; omega
              have hrn := hq5 r_ (by rw [hO]; simp)
              have hk0 : (kcl out vs)[(out.length - 1) * 2 + 0]? = some (.int .i64 (r_.1 : Nat)) := by rw [hOl, hO, hV]; exact kcl_l0 hVl
              have hk1 : (kcl out vs)[(out.length - 1) * 2 + 1]? = some (.slice xb r_.2.length xc) := by rw [hOl, hO, hV]; exact kcl_l1 hVl
              refine ql_v rfl (o_move (by conv => lhs; whnf)) ?_; refine ql_v rfl (o_move (by conv => lhs; whnf)) ?_; refine ql_env (d := 45) (v := .int .i64 ((out.length - 1 : Nat) : Int)) (by show Value.int .i64 _ = _; congr 1; omega) ?_; refine ql_v rfl (o_ixP (a := a8) Try.underlying73 sz76 rfl rfl (by omega) (nn_rs (xs := kcl out vs) (by repeat (first | with_reducible exact rs_sl | apply Rs.left)) (fun _ => by rw [kcl_len hq2]; omega))) ?_; refine ql_v rfl (o_faP (a := a8) (m := 0) (o := 0) Try.underlying76 rfl rfl sz3 rfl (nn_rs (xs := kcl out vs) (by repeat (first | with_reducible exact rs_sl | apply Rs.left)) (fun _ => by rw [kcl_len hq2]; omega))) ?_; refine ql_v rfl (o_ldP (a := a8) (xs := kcl out vs) p3 rfl (by repeat (first | with_reducible exact rs_sl | apply Rs.left)) hk0) ?_; refine ql_v rfl (o_move (by conv => lhs; whnf)) ?_; refine ql_v rfl (o_move (by conv => lhs; whnf)) ?_; refine ql_env (d := 50) (v := .int .i64 ((out.length - 1 : Nat) : Int)) (by show Value.int .i64 _ = _; congr 1; omega) ?_; refine ql_v rfl (o_ixP (a := a8) Try.underlying73 sz76 rfl rfl (by omega) (nn_rs (xs := kcl out vs) (by repeat (first | with_reducible exact rs_sl | apply Rs.left)) (fun _ => by rw [kcl_len hq2]; omega))) ?_; refine ql_v rfl (o_faP (a := a8) (m := 0) (o := 1) Try.underlying76 rfl rfl sz22 rfl (nn_rs (xs := kcl out vs) (by repeat (first | with_reducible exact rs_sl | apply Rs.left)) (fun _ => by rw [kcl_len hq2]; omega))) ?_
              refine ql_v rfl (o_ldP (a := a8) (xs := kcl out vs) p22 rfl (by repeat (first | with_reducible exact rs_sl | apply Rs.left)) hk1) ?_; refine ql_v rfl (o_len Try.underlying22 rfl) ?_; refine ql_v rfl (o_addI rfl rfl (by omega)) ?_; refine ql_v rfl (o_move (by conv => lhs; whnf)) ?_; refine ql_v rfl (o_eqi rfl rfl) ?_; refine ql_v rfl (o_pick_t rfl (by conv => lhs; whnf)) ?_; refine ql_nil ?_; exact ⟨_, by first | (rw [hO, adjB_snoc, decide_eq_decide]; omega) | (rw [hne]; rfl), rfl, rfl, rfl, rfl, rfl, rfl, rfl, rfl, (by repeat (first | with_reducible exact dr_refl | apply dr_keep | apply dr_drop))⟩
            · have hne : out = [] := List.eq_nil_of_length_eq_zero (by simp at h; omega)
              refine ql_skip rfl ?_; refine ql_skip rfl ?_; refine ql_skip rfl ?_; refine ql_skip rfl ?_; refine ql_skip rfl ?_; refine ql_skip rfl ?_; refine ql_skip rfl ?_; refine ql_skip rfl ?_; refine ql_skip rfl ?_; refine ql_skip rfl ?_; refine ql_skip rfl ?_; refine ql_skip rfl ?_; refine ql_skip rfl ?_; refine ql_skip rfl ?_; refine ql_v rfl (o_pick_f rfl (by conv => lhs; whnf)) ?_; refine ql_nil ?_; exact ⟨_, by first | (rw [hO, adjB_snoc, decide_eq_decide]; omega) | (rw [hne]; rfl), rfl, rfl, rfl, rfl, rfl, rfl, rfl, rfl, (by repeat (first | with_reducible exact dr_refl | apply dr_keep | apply dr_drop))⟩
          · intro ρ B hI
            obtain ⟨bb, hbb0, hE58, hE0, hE8, hE10, hE11, hE32, hE33, hE34, hBA⟩ := hI
            refine q_then_n ?_; refine tc_pre hBA.sat ?_
            clear hBA
            refine tc_env (d := 58) hE58 ?_; refine tc_env (d := 0) hE0 ?_; refine tc_env (d := 8) hE8 ?_; refine tc_env (d := 10) hE10 ?_; refine tc_env (d := 11) hE11 ?_; refine tc_env (d := 32) hE32 ?_; refine tc_env (d := 33) hE33 ?_; refine tc_env (d := 34) hE34 ?_
            clear hE58 hE0 hE8 hE10 hE11 hE32 hE33 hE34
            refine tc_cond rfl (fun h => ?_) (fun h => ?_)
            · obtain ⟨O, r_, hO, hadj, hrun⟩ := adj_t (f := f) (show adjB out ((adrF n kd f)[i]'(by omega)) = true by rw [← hbb0]; exact h)
              obtain ⟨V, xb, xc, hV, hVl, hxc⟩ := parts_last (O := O) (r := r_) (by rw [← hO]; exact hq2) (by rw [← hO]; exact hps)
              subst hO hV
              have hOl : (O ++ [r_]).length = O.length + 1 := by rw [List.length_append, List.length_singleton]
              have hrn := hq5 r_ (by simp)
              refine tc_have (fun _ _ h => sl_some h (by omega)) fun ⟨bb8, oo8, ha8⟩ => ?_
              subst ha8
              refine tc_eq (show _ = A * Sl 1 (.slice a5 (kys f kd vis).length c5) (kys f kd vis).length (ints ((adrF n kd f).map fun a : Nat => (a : Int))) * Parts V (O.map (·.2)) * Sl 1 (.slice xb r_.2.length xc) r_.2.length (bys r_.2) * Sl 2 (.slice (some ⟨bb8, oo8, none⟩) (O ++ [r_]).length c8) (O ++ [r_]).length (kcl (O ++ [r_]) (V ++ [(.slice xb r_.2.length xc)])) by rw [List.map_append]; rw [show Parts (V ++ [(.slice xb r_.2.length xc)]) (O.map (·.2) ++ [r_].map (·.2)) = Parts V (O.map (·.2)) * Sl 1 (.slice xb r_.2.length xc) r_.2.length (bys r_.2) from parts_snoc (by rw [List.length_map]; exact hVl)]; ac_rfl) ?_; refine tc_seq ?_; refine tc_regh (S := A * Sl 1 (.slice a5 (kys f kd vis).length c5) (kys f kd vis).length (ints ((adrF n kd f).map fun a : Nat => (a : Int))) * Parts V (O.map (·.2))) mo (by repeat (first | with_reducible exact dr_refl | apply dr_keep | apply dr_drop)) ?_
              show TH _ _ _ _ _ 19 #[ff,ff,ff,ff,ff,ff,ff,ff,ff,ff,ff,ff,ff,ff,ff,ff,ff,ff,ff] _ _
              refine th_take (i := 0) (listed' := #[tt,ff,ff,ff,ff,ff,ff,ff,ff,ff,ff,ff,ff,ff,ff,ff,ff,ff,ff]) rfl (by kernel_rfl) (by kernel_rfl) (by kernel_rfl) rfl rfl (o_move (by conv => lhs; whnf)) ?_; refine th_take (i := 1) (listed' := #[tt,tt,ff,ff,ff,ff,ff,ff,ff,ff,ff,ff,ff,ff,ff,ff,ff,ff,ff]) rfl (by kernel_rfl) (by kernel_rfl) (by kernel_rfl) rfl rfl (o_move (by conv => lhs; whnf)) ?_; refine th_env (d := 60) (v := .int .i64 ((O.length : Nat) : Int)) (by show Value.int .i64 _ = _; rw [hOl]; congr 1; omega) ?_; refine th_take (i := 2) (listed' := #[tt,tt,tt,ff,ff,ff,ff,ff,ff,ff,ff,ff,ff,ff,ff,ff,ff,ff,ff]) rfl (by kernel_rfl) (by kernel_rfl) (by kernel_rfl) rfl rfl (o_move (by conv => lhs; whnf)) ?_; refine th_take (i := 3) (listed' := #[tt,tt,tt,tt,ff,ff,ff,ff,ff,ff,ff,ff,ff,ff,ff,ff,ff,ff,ff]) rfl (by kernel_rfl) (by kernel_rfl) (by kernel_rfl) rfl rfl (o_move (by conv => lhs; whnf)) ?_; refine th_env (d := 62) (v := .int .i64 ((O.length : Nat) : Int)) (by show Value.int .i64 _ = _; rw [hOl]; congr 1; omega) ?_; refine th_take (i := 4) (listed' := #[tt,tt,tt,tt,tt,ff,ff,ff,ff,ff,ff,ff,ff,ff,ff,ff,ff,ff,ff]) rfl (by kernel_rfl) (by kernel_rfl) (by kernel_rfl) rfl rfl (o_ixP (a := some ⟨bb8, oo8, none⟩) Try.underlying73 sz76 rfl rfl (by omega) nn_some) ?_; refine th_take (i := 5) (listed' := #[tt,tt,tt,tt,tt,tt,ff,ff,ff,ff,ff,ff,ff,ff,ff,ff,ff,ff,ff]) rfl (by kernel_rfl) (by kernel_rfl) (by kernel_rfl) rfl rfl (o_faP (a := some ⟨bb8, oo8, none⟩) (m := 0) (o := 1) Try.underlying76 rfl rfl sz22 rfl nn_some) ?_
              refine th_take (i := 7) (listed' := #[tt,tt,tt,tt,tt,tt,ff,tt,ff,ff,ff,ff,ff,ff,ff,ff,ff,ff,ff]) rfl (by kernel_rfl) (by kernel_rfl) (by kernel_rfl) rfl rfl (o_move (by conv => lhs; whnf)) ?_; refine th_take (i := 8) (listed' := #[tt,tt,tt,tt,tt,tt,ff,tt,tt,ff,ff,ff,ff,ff,ff,ff,ff,ff,ff]) rfl (by kernel_rfl) (by kernel_rfl) (by kernel_rfl) rfl rfl (o_nilCheck rfl) ?_; refine th_take (i := 9) (listed' := #[tt,tt,tt,tt,tt,tt,ff,tt,tt,tt,ff,ff,ff,ff,ff,ff,ff,ff,ff]) rfl (by kernel_rfl) (by kernel_rfl) (by kernel_rfl) rfl rfl (o_fieldAddr (o := 1) Try.underlying69 rfl rfl sz67 rfl) ?_; refine th_take (i := 10) (listed' := #[tt,tt,tt,tt,tt,tt,ff,tt,tt,tt,tt,ff,ff,ff,ff,ff,ff,ff,ff]) rfl (by kernel_rfl) (by kernel_rfl) (by kernel_rfl) rfl rfl (o_load p67 rfl (by repeat (first | assumption | apply has_left)) rfl) ?_; refine th_take (i := 11) (listed' := #[tt,tt,tt,tt,tt,tt,ff,tt,tt,tt,tt,tt,ff,ff,ff,ff,ff,ff,ff]) rfl (by kernel_rfl) (by kernel_rfl) (by kernel_rfl) rfl rfl (o_move (by conv => lhs; whnf)) ?_; refine th_take (i := 12) (listed' := #[tt,tt,tt,tt,tt,tt,ff,tt,tt,tt,tt,tt,tt,ff,ff,ff,ff,ff,ff]) rfl (by kernel_rfl) (by kernel_rfl) (by kernel_rfl) rfl rfl (o_lookup (ik := .i64) Try.underlying67 Try.underlying3 z71 rfl rfl (by repeat (first | assumption | apply has_left))) ?_; refine th_env (d := 71) (v := .agg (cel0 c0).toArray) (by show (M.get ((((adrF n kd f)[i]'(by omega)) : Nat) : Int)).getD _ = _; rw [hget]; rfl) ?_
              refine th_take (i := 13) (listed' := #[tt,tt,tt,tt,tt,tt,ff,tt,tt,tt,tt,tt,tt,tt,ff,ff,ff,ff,ff]) rfl (by kernel_rfl) (by kernel_rfl) (by kernel_rfl) rfl rfl (o_field1 Try.underlying71 rfl p5 rfl rfl) ?_; refine th_two (i := 6) (j := 14) (by kernel_rfl) ?_ ?_
              · skip
                refine oh_v (i := 6) (listed' := #[tt,tt,tt,tt,tt,tt,tt,tt,tt,tt,tt,tt,tt,tt,ff,ff,ff,ff,ff]) rfl rfl rfl (o_ldP (a := some ⟨bb8, oo8, none⟩) (xs := kcl (O ++ [r_]) (V ++ [(.slice xb r_.2.length xc)])) p22 rfl (by repeat (first | with_reducible exact rs_sl | apply Rs.left)) (kcl_l1 hVl)) ?_; refine th_one (i := 14) (by kernel_rfl) ?_; refine oh_x (i := 14) (listed' := #[tt,tt,tt,tt,tt,tt,tt,tt,tt,tt,tt,tt,tt,tt,tt,ff,ff,ff,ff]) rfl rfl rfl (o_buildSliceL (k := 1) (vs := bys [c0.1]) (l := bys [c0.1]) Try.underlying22 sz5 z5 rfl rfl (by decide) (by decide) (by intro v hv; simp only [bys, b8, List.map_cons, List.map_nil, List.mem_cons, List.not_mem_nil, or_false] at hv; rcases hv with rfl; rfl) rfl) ?_; rintro _ _ ⟨b73, rfl, rfl⟩; refine ⟨by repeat (first | with_reducible exact dr_refl | apply dr_keep | apply dr_drop), ?_⟩; refine th_one (i := 15) (by kernel_rfl) ?_; refine oh_x (i := 15) (listed' := #[tt,tt,tt,tt,tt,tt,tt,tt,tt,tt,tt,tt,tt,tt,tt,tt,ff,ff,ff]) rfl rfl rfl (o_apB Try.underlying22 Try.underlying22 sz5 by5 z5 rfl (by decide) (by decide) rfl rfl rfl (by repeat (first | with_reducible exact ct_here | apply ct_left)) rfl rfl (by omega) (show _ = bys (r_.2 ++ [c0.1]) by rw [← bys_append])) ?_; rintro _ _ ⟨a74, c74, rfl, hc74, rfl⟩; refine ⟨by repeat (first | with_reducible exact dr_refl | apply dr_keep | apply dr_drop), ?_⟩; refine th_take (i := 16) (listed' := #[tt,tt,tt,tt,tt,tt,tt,tt,tt,tt,tt,tt,tt,tt,tt,tt,tt,ff,ff]) rfl (by kernel_rfl) (by kernel_rfl) (by kernel_rfl) rfl rfl (o_ixP (a := some ⟨bb8, oo8, none⟩) Try.underlying73 sz76 rfl rfl (by omega) nn_some) ?_
                refine th_take (i := 17) (listed' := #[tt,tt,tt,tt,tt,tt,tt,tt,tt,tt,tt,tt,tt,tt,tt,tt,tt,tt,ff]) rfl (by kernel_rfl) (by kernel_rfl) (by kernel_rfl) rfl rfl (o_faP (a := some ⟨bb8, oo8, none⟩) (m := 0) (o := 1) Try.underlying76 rfl rfl sz22 rfl nn_some) ?_; refine th_one (i := 18) (by kernel_rfl) ?_; refine oh_u (i := 18) (listed' := #[tt,tt,tt,tt,tt,tt,tt,tt,tt,tt,tt,tt,tt,tt,tt,tt,tt,tt,tt]) rfl rfl rfl (o_stP (ys := kcl (O ++ [(r_.1, r_.2 ++ [c0.1])]) (V ++ [.slice a74 (r_.2.length + 1) c74])) sz22 rfl rfl rfl (by repeat (first | with_reducible exact ct_here | apply ct_left)) (by omega) (kcl_set hVl _)) (by repeat (first | with_reducible exact dr_refl | apply dr_keep | apply dr_drop)) ?_; refine th_done (by kernel_rfl) ?_; refine q_then_n ?_; refine tc_exit ?_; refine q_then_e (q_block_x (q_then_n ?_)); refine tc_reg ?_; refine tv (by first | exact o_addI rfl rfl (by omega) | exact o_add rfl rfl) ?_; refine tlm ?_; refine nq ?_
                have hlo : (O ++ [(r_.1, r_.2 ++ [c0.1])]).length = (O ++ [r_]).length := by rw [List.length_append, List.length_append]; rfl
                exact ⟨_, by omega, i + 1, O ++ [(r_.1, r_.2 ++ [c0.1])], V ++ [(.slice a74 (r_.2.length + 1) c74)], (some ⟨bb8, oo8, none⟩), c8, by omega, by rw [runs_next hq1 hi, hrun, hbya], by rw [List.length_append, List.length_append, hVl]; rfl, by rw [hlo]; exact hq3, by rw [hlo]; omega, fun r hr => (by rcases List.mem_append.1 hr with h9 | h9; exact hq5 r (List.mem_append_left _ h9); rw [List.mem_singleton] at h9; subst h9; show r_.1 + (r_.2 ++ [c0.1]).length ≤ n; rw [List.length_append, List.length_singleton]; omega), rfl, by rw [hlo]; rfl, rfl, rfl, rfl, rfl, by rw [hlo, List.map_append, show Parts (V ++ [(.slice a74 (r_.2.length + 1) c74)]) (O.map (·.2) ++ [(r_.1, r_.2 ++ [c0.1])].map (·.2)) = Parts V (O.map (·.2)) * Sl 1 (.slice a74 (r_.2.length + 1) c74) (r_.2.length + 1) (bys (r_.2 ++ [c0.1])) from (parts_snoc (x := r_.2 ++ [c0.1]) (by rw [List.length_map]; exact hVl)).trans (by rw [List.length_append, List.length_singleton]), ← star_assoc]; repeat (first | with_reducible exact dr_refl | apply dr_keep | apply dr_drop)⟩
              · skip
                refine oh_x (i := 14) (listed' := #[tt,tt,tt,tt,tt,tt,ff,tt,tt,tt,tt,tt,tt,tt,tt,ff,ff,ff,ff]) rfl rfl rfl (o_buildSliceL (k := 1) (vs := bys [c0.1]) (l := bys [c0.1]) Try.underlying22 sz5 z5 rfl rfl (by decide) (by decide) (by intro v hv; simp only [bys, b8, List.map_cons, List.map_nil, List.mem_cons, List.not_mem_nil, or_false] at hv; rcases hv with rfl; rfl) rfl) ?_; rintro _ _ ⟨b73, rfl, rfl⟩; refine ⟨by repeat (first | with_reducible exact dr_refl | apply dr_keep | apply dr_drop), ?_⟩; refine th_one (i := 6) (by kernel_rfl) ?_; refine oh_v (i := 6) (listed' := #[tt,tt,tt,tt,tt,tt,tt,tt,tt,tt,tt,tt,tt,tt,tt,ff,ff,ff,ff]) rfl rfl rfl (o_ldP (a := some ⟨bb8, oo8, none⟩) (xs := kcl (O ++ [r_]) (V ++ [(.slice xb r_.2.length xc)])) p22 rfl (by repeat (first | with_reducible exact rs_sl | apply Rs.left)) (kcl_l1 hVl)) ?_; refine th_one (i := 15) (by kernel_rfl) ?_; refine oh_x (i := 15) (listed' := #[tt,tt,tt,tt,tt,tt,tt,tt,tt,tt,tt,tt,tt,tt,tt,tt,ff,ff,ff]) rfl rfl rfl (o_apB Try.underlying22 Try.underlying22 sz5 by5 z5 rfl (by decide) (by decide) rfl rfl rfl (by repeat (first | with_reducible exact ct_here | apply ct_left)) rfl rfl (by omega) (show _ = bys (r_.2 ++ [c0.1]) by rw [← bys_append])) ?_; rintro _ _ ⟨a74, c74, rfl, hc74, rfl⟩; refine ⟨by repeat (first | with_reducible exact dr_refl | apply dr_keep | apply dr_drop), ?_⟩; refine th_take (i := 16) (listed' := #[tt,tt,tt,tt,tt,tt,tt,tt,tt,tt,tt,tt,tt,tt,tt,tt,tt,ff,ff]) rfl (by kernel_rfl) (by kernel_rfl) (by kernel_rfl) rfl rfl (o_ixP (a := some ⟨bb8, oo8, none⟩) Try.underlying73 sz76 rfl rfl (by omega) nn_some) ?_
                refine th_take (i := 17) (listed' := #[tt,tt,tt,tt,tt,tt,tt,tt,tt,tt,tt,tt,tt,tt,tt,tt,tt,tt,ff]) rfl (by kernel_rfl) (by kernel_rfl) (by kernel_rfl) rfl rfl (o_faP (a := some ⟨bb8, oo8, none⟩) (m := 0) (o := 1) Try.underlying76 rfl rfl sz22 rfl nn_some) ?_; refine th_one (i := 18) (by kernel_rfl) ?_; refine oh_u (i := 18) (listed' := #[tt,tt,tt,tt,tt,tt,tt,tt,tt,tt,tt,tt,tt,tt,tt,tt,tt,tt,tt]) rfl rfl rfl (o_stP (ys := kcl (O ++ [(r_.1, r_.2 ++ [c0.1])]) (V ++ [.slice a74 (r_.2.length + 1) c74])) sz22 rfl rfl rfl (by repeat (first | with_reducible exact ct_here | apply ct_left)) (by omega) (kcl_set hVl _)) (by repeat (first | with_reducible exact dr_refl | apply dr_keep | apply dr_drop)) ?_; refine th_done (by kernel_rfl) ?_; refine q_then_n ?_; refine tc_exit ?_; refine q_then_e (q_block_x (q_then_n ?_)); refine tc_reg ?_; refine tv (by first | exact o_addI rfl rfl (by omega) | exact o_add rfl rfl) ?_; refine tlm ?_; refine nq ?_
                have hlo : (O ++ [(r_.1, r_.2 ++ [c0.1])]).length = (O ++ [r_]).length := by rw [List.length_append, List.length_append]; rfl
                exact ⟨_, by omega, i + 1, O ++ [(r_.1, r_.2 ++ [c0.1])], V ++ [(.slice a74 (r_.2.length + 1) c74)], (some ⟨bb8, oo8, none⟩), c8, by omega, by rw [runs_next hq1 hi, hrun, hbya], by rw [List.length_append, List.length_append, hVl]; rfl, by rw [hlo]; exact hq3, by rw [hlo]; omega, fun r hr => (by rcases List.mem_append.1 hr with h9 | h9; exact hq5 r (List.mem_append_left _ h9); rw [List.mem_singleton] at h9; subst h9; show r_.1 + (r_.2 ++ [c0.1]).length ≤ n; rw [List.length_append, List.length_singleton]; omega), rfl, by rw [hlo]; rfl, rfl, rfl, rfl, rfl, by rw [hlo, List.map_append, show Parts (V ++ [(.slice a74 (r_.2.length + 1) c74)]) (O.map (·.2) ++ [(r_.1, r_.2 ++ [c0.1])].map (·.2)) = Parts V (O.map (·.2)) * Sl 1 (.slice a74 (r_.2.length + 1) c74) (r_.2.length + 1) (bys (r_.2 ++ [c0.1])) from (parts_snoc (x := r_.2 ++ [c0.1]) (by rw [List.length_map]; exact hVl)).trans (by rw [List.length_append, List.length_singleton]), ← star_assoc]; repeat (first | with_reducible exact dr_refl | apply dr_keep | apply dr_drop)⟩
            · have hbf : adjB out ((adrF n kd f)[i]'(by omega)) = false := by rw [← hbb0]; exact h
              refine tc_skip ?_; refine q_then_n ?_; refine tc_reg ?_; refine tlm ?_; refine tlm ?_; refine tlm ?_; refine tv (o_nilCheck rfl) ?_; refine tv (o_fieldAddr (o := 1) Try.underlying69 rfl rfl sz67 rfl) ?_; refine tv (o_load p67 rfl (by repeat (first | assumption | apply has_left)) rfl) ?_; refine tlm ?_; refine tv (o_lookup (ik := .i64) Try.underlying67 Try.underlying3 z71 rfl rfl (by repeat (first | assumption | apply has_left))) ?_; refine tl_env (d := 84) (v := .agg (cel0 c0).toArray) (by show (M.get ((((adrF n kd f)[i]'(by omega)) : Nat) : Int)).getD _ = _; rw [hget]; rfl) ?_; refine tv (o_field1 Try.underlying71 rfl p5 rfl rfl) ?_; refine tl_x rfl (o_buildSliceL (k := 1) (vs := bys [c0.1]) (l := bys [c0.1]) Try.underlying22 sz5 z5 rfl rfl (by decide) (by decide) (by intro v hv; simp only [bys, b8, List.map_cons, List.map_nil, List.mem_cons, List.not_mem_nil, or_false] at hv; rcases hv with rfl; rfl) rfl) ?_; rintro _ _ ⟨b86, rfl, rfl⟩; refine tl_pre (A' := A * Sl 1 (.slice a5 (kys f kd vis).length c5) (kys f kd vis).length (ints ((adrF n kd f).map fun a : Nat => (a : Int))) * Parts vs (out.map (·.2)) * Sl 2 (.slice a8 out.length c8) out.length (kcl out vs) * Sl 1 (.slice (some ⟨b86, 0, none⟩) 1 1) 1 (bys [c0.1])) (fun _ _ h => sl_new (k := 1) (n := 1) (cap := 1) (xs := bys [c0.1]) h (by decide) (Nat.le_refl _) rfl) ?_
              refine tv (o_bS (l := [_, _]) (pv_cons (by conv => lhs; whnf) (pv_cons (by conv => lhs; whnf) pv_nil)) Try.underlying76 z76 (pl76 Try.underlying76) rfl) ?_; refine tl_x rfl (o_buildSliceK (k := 2) (l := [.int .i64 ((((adrF n kd f)[i]'(by omega)) : Nat) : Int), .slice (some ⟨b86, 0, none⟩) 1 1]) Try.underlying73 sz76 z76 rfl rfl (by decide)) ?_; rintro _ _ ⟨b88, rfl, rfl⟩; refine tl_x rfl (o_apB Try.underlying73 Try.underlying73 sz76 by76 z76 rfl (by decide) (by decide) rfl rfl rfl (by repeat (first | with_reducible exact ct_here | apply ct_left)) rfl rfl (by omega) (show _ = kcl (out ++ [(((adrF n kd f)[i]'(by omega)), [(byF f ((adrF n kd f)[i]'(by omega)))])]) (vs ++ [.slice (some ⟨b86, 0, none⟩) 1 1]) by rw [kcl_snoc hq2])) ?_; rintro _ _ ⟨a89, c89, rfl, hc89, rfl⟩; refine tl_eq (show _ = A * Sl 1 (.slice a5 (kys f kd vis).length c5) (kys f kd vis).length (ints ((adrF n kd f).map fun a : Nat => (a : Int))) * Parts (vs ++ [.slice (some ⟨b86, 0, none⟩) 1 1]) ((out ++ [(((adrF n kd f)[i]'(by omega)), [(byF f ((adrF n kd f)[i]'(by omega)))])]).map (·.2)) * Sl 2 (.slice a89 (out.length + 1) c89) (out.length + 1) (kcl (out ++ [(((adrF n kd f)[i]'(by omega)), [(byF f ((adrF n kd f)[i]'(by omega)))])]) (vs ++ [.slice (some ⟨b86, 0, none⟩) 1 1])) by rw [List.map_append, show Parts (vs ++ [.slice (some ⟨b86, 0, none⟩) 1 1]) (out.map (·.2) ++ [(((adrF n kd f)[i]'(by omega)), [(byF f ((adrF n kd f)[i]'(by omega)))])].map (·.2)) = Parts vs (out.map (·.2)) * Sl 1 (.slice (some ⟨b86, 0, none⟩) 1 1) 1 (bys [c0.1]) by rw [← hbya]; exact parts_snoc (by rw [List.length_map]; exact hq2)]; ac_rfl) ?_
              refine tla ?_; refine tl_nil ?_; refine q_block_n (q_then_n ?_); refine tc_reg ?_; refine tv (by first | exact o_addI rfl rfl (by omega) | exact o_add rfl rfl) ?_; refine tlm ?_; refine nq ?_; exact ⟨_, by omega, i + 1, out ++ [(((adrF n kd f)[i]'(by omega)), [(byF f ((adrF n kd f)[i]'(by omega)))])], vs ++ [.slice (some ⟨b86, 0, none⟩) 1 1], a89, c89, by omega, by rw [runs_next hq1 hi]; exact adj_f hbf, by rw [List.length_append, List.length_append, hq2]; rfl, by rw [List.length_append]; exact hc89, by rw [List.length_append, List.length_singleton]; omega, fun r hr => by rcases List.mem_append.1 hr with h9 | h9; exact hq5 r h9; rw [List.mem_singleton] at h9; subst h9; show _ + 1 ≤ n; omega, rfl, by rw [List.length_append, List.length_singleton]; rfl, rfl, rfl, rfl, rfl, by rw [List.length_append, List.length_singleton]; repeat (first | with_reducible exact dr_refl | apply dr_keep | apply dr_drop)⟩
        · obtain rfl : i = (adrF n kd f).length := by simp at h; omega
          rw [List.take_length] at hq1
          refine tc_exit ?_; refine q_then_e (q_then_e (q_block_x (q_then_n ?_))); refine sr ?_; refine tlm ?_; refine tla ?_; refine nq ?_; refine tc_ret ?_
          have e9 : runsF n kd f = out := hq1
          rw [e9]
          exact ⟨_, _, res1 rfl rfl, Dr.sat (by repeat (first | with_reducible exact dr_refl | apply dr_keep | apply dr_drop)), a8, c8, vs, rfl, hq3, hq2, rfl⟩
end Go.Vl

namespace Go.Vl
open Go Go.Proofs
def ovK (f : TF) (q i : Nat) (xs : List Nat) : List Nat := xs.mapIdx fun j x => if j < i then ((f (q + j)).map (·.1)).getD x else x
theorem ovK_len (f : TF) (q i : Nat) (xs : List Nat) : (ovK f q i xs).length = xs.length := by simp [ovK]
theorem ovK_zero (f : TF) (q : Nat) (xs : List Nat) : ovK f q 0 xs = xs := by
  apply List.ext_getElem?; intro j; unfold ovK; rw [List.getElem?_mapIdx]
  cases xs[j]? <;> simp
theorem ovK_all (f : TF) (q : Nat) (xs : List Nat) : ovK f q xs.length xs = ovF f q xs := by
  apply List.ext_getElem?; intro j; unfold ovK ovF; rw [List.getElem?_mapIdx, List.getElem?_mapIdx]
  cases h : xs[j]? with
  | none => rfl
  | some x => obtain ⟨hj, _⟩ := List.getElem?_eq_some_iff.1 h; simp only [Option.map_some]; rw [if_pos hj]
theorem ovK_none {f : TF} {q i : Nat} {xs : List Nat} (h : f (q + i) = none) : ovK f q (i + 1) xs = ovK f q i xs := by
  apply List.ext_getElem?; intro j; unfold ovK; rw [List.getElem?_mapIdx, List.getElem?_mapIdx]
  cases xs[j]? with
  | none => rfl
  | some x =>
    simp only [Option.map_some]
    by_cases hj : j = i
    · subst hj; rw [if_pos (by omega), if_neg (by omega), h]; rfl
    · by_cases h2 : j < i
      · rw [if_pos (show j < i + 1 by omega), if_pos h2]
      · rw [if_neg (show ¬ j < i + 1 by omega), if_neg h2]
theorem ovK_some {f : TF} {q i : Nat} {xs : List Nat} {c : Nat × Bool} (h : f (q + i) = some c) (hi : i < xs.length) : (ovK f q i xs).set i c.1 = ovK f q (i + 1) xs := by
  apply List.ext_getElem?; intro j
  rw [List.getElem?_set, ovK_len]
  unfold ovK; rw [List.getElem?_mapIdx, List.getElem?_mapIdx]
  by_cases hj : i = j
  · subst hj
    rw [if_pos rfl, if_pos hi, List.getElem?_eq_getElem hi]
    simp only [Option.map_some]; rw [if_pos (by omega), h]; rfl
  · rw [if_neg hj]
    cases xs[j]? with
    | none => rfl
    | some x =>
      simp only [Option.map_some]
      by_cases h2 : j < i
      · rw [if_pos (show j < i + 1 by omega), if_pos h2]
      · rw [if_neg (show ¬ j < i + 1 by omega), if_neg h2]
theorem ext_succ {L : List (Nat × List Nat)} {i : Nat} (h : i < L.length) : extX (L.take (i + 1)) = extX (L.take i) ++ [((((L.getD i (0, [])).1 : Nat) : Int), (((L.getD i (0, [])).2.length : Nat) : Int))] := by
  have e : L.getD i (0, []) = L[i] := by rw [List.getD_eq_getElem?_getD, List.getElem?_eq_getElem h]; rfl
  rw [List.take_succ_eq_append_getElem h, e]; unfold extX; rw [List.map_append]; rfl
theorem ext_len (L : List (Nat × List Nat)) : (extX L).length = L.length := by unfold extX; rw [List.length_map]
theorem xcl_sn (l : List (Int × Int)) (x : Int × Int) : xcl (l ++ [x]) = xcl l ++ xcs x := by unfold xcl; rw [List.flatMap_append]; simp
theorem runs12_w {A : SP} {p t mb n : Nat} {over : Bool} {M : MS} {f : TF} {kd : Bool} {L : List (Nat × List Nat)} (ht : Has A t (cl (txcs p mb over) 69)) (hmb : Has A mb (mpo .i64 M)) (hM : MF M n f) (hn : n ≤ 4194304) (hX : runsF n kd f = L) :
    Fn Try.prog 30 #[.pointer (some ⟨t, 0, none⟩), .bool kd] A (fun r B => ∃ a c vs, r = .slice a L.length c ∧ L.length ≤ c ∧ vs.length = L.length ∧ B = A * Parts vs (L.map (·.2)) * Sl 2 (.slice a L.length c) L.length (kcl L vs)) := by
  subst hX; exact runs12_c ht hmb hM hn
attribute [local irreducible] crk crL crc Sl pt ro Dev imgS recS readS recsF rdW rdO rkT Parts rvl recordsS runsL adrF kcl xcl kys runA runsF layF
theorem StoreT_c {A R : SP} {C : SP → SP} {t p lg d mb at_ sz : Nat} {M : MS} {s : DevS} (hc : Ct A (TxA t p lg d mb at_ sz M false s) R C := by repeat (first | with_reducible exact ct_here | apply ct_left)) {n : Nat} {f : TF} {a : Option Addr} {c m q : Nat} {xs : List Nat} (hM : MF M n f) (hn : n = s.ls.length * 64 := by omega) (ho : s.off = false := by assumption) (hr : Rs R a (bys xs) := by repeat (first | assumption | with_reducible exact rs_sl | with_reducible exact rs_pt0 | exact rs_none | apply Rs.left)) (hm : xs.length = m := by first | assumption | rfl) (hb : ∀ x ∈ xs, x < 256 := by assumption) (hqm : q + m ≤ n := by omega) :
    Fn Try.prog 23 #[.pointer (some ⟨t, 0, none⟩), .int .i64 (q : Nat), .slice a m c] (A) (fun r B => ∃ M2, r = .int .i64 0 ∧ MF M2 n (layF q xs false f) ∧ B = C (TxA t p lg d mb at_ sz M2 false s)) := by
  refine fn_enterW (args := [.pointer (some ⟨t, 0, none⟩), .int .i64 (q : Nat), .slice a m c]) Try.func23 rfl Try.ntmps23 (by simp) ?_; refine sr ?_; refine tla ?_; refine nq ?_; refine sr ?_; refine tlm ?_; refine tlm ?_; refine tlm ?_; refine tl_c rfl (o_call bd42 rfl (lay12_c (hc := hc) (n := n) (f := f) (fr := false) (xs := xs) (hM := hM) (hn := hn) (ho := ho) (hr := hr) (hm := hm) (hb := hb) (hqm := hqm))) ?_; rintro _ _ ⟨M2, rfl, hM2, rfl⟩; refine tla ?_; refine nq ?_; refine tc_ret ?_; exact ⟨.int .i64 0, _, res1 rfl rfl, fun _ _ h => h, M2, rfl, hM2, rfl⟩
theorem FreshT_c {A R : SP} {C : SP → SP} {t p lg d mb at_ sz : Nat} {M : MS} {s : DevS} (hc : Ct A (TxA t p lg d mb at_ sz M false s) R C := by repeat (first | with_reducible exact ct_here | apply ct_left)) {n : Nat} {f : TF} {a : Option Addr} {c m q : Nat} {xs : List Nat} (hM : MF M n f) (hn : n = s.ls.length * 64 := by omega) (ho : s.off = false := by assumption) (hr : Rs R a (bys xs) := by repeat (first | assumption | with_reducible exact rs_sl | with_reducible exact rs_pt0 | exact rs_none | apply Rs.left)) (hm : xs.length = m := by first | assumption | rfl) (hb : ∀ x ∈ xs, x < 256 := by assumption) (hqm : q + m ≤ n := by omega) :
    Fn Try.prog 24 #[.pointer (some ⟨t, 0, none⟩), .int .i64 (q : Nat), .slice a m c] (A) (fun r B => ∃ M2, r = .int .i64 0 ∧ MF M2 n (layF q xs true f) ∧ B = C (TxA t p lg d mb at_ sz M2 false s)) := by
  refine fn_enterW (args := [.pointer (some ⟨t, 0, none⟩), .int .i64 (q : Nat), .slice a m c]) Try.func24 rfl Try.ntmps24 (by simp) ?_; refine sr ?_; refine tla ?_; refine nq ?_; refine sr ?_; refine tlm ?_; refine tlm ?_; refine tlm ?_; refine tl_c rfl (o_call bd42 rfl (lay12_c (hc := hc) (n := n) (f := f) (fr := true) (xs := xs) (hM := hM) (hn := hn) (ho := ho) (hr := hr) (hm := hm) (hb := hb) (hqm := hqm))) ?_; rintro _ _ ⟨M2, rfl, hM2, rfl⟩; refine tla ?_; refine nq ?_; refine tc_ret ?_; exact ⟨.int .i64 0, _, res1 rfl rfl, fun _ _ h => h, M2, rfl, hM2, rfl⟩
set_option maxRecDepth 20000 in
set_option maxHeartbeats 1000000 in
theorem LoadT_c {A R : SP} {C : SP → SP} {t p lg d mb at_ sz : Nat} {M : MS} {s : DevS} (hc : Ct A (TxA t p lg d mb at_ sz M false s) R C := by repeat (first | with_reducible exact ct_here | apply ct_left)) {n : Nat} {f : TF} {q m : Nat} (hM : MF M n f) (hn : n = s.ls.length * 64 := by omega) (ho : s.off = false := by assumption) (hqm : q + m ≤ n := by omega) :
    Fn Try.prog 8 #[.pointer (some ⟨t, 0, none⟩), .int .i64 (q : Nat), .int .i64 (m : Nat)] (A) (fun r B => ∃ a c, r = .tuple #[.slice a m c, .int .i64 0] ∧ m ≤ c ∧ B = A * Sl 1 (.slice a m c) m (bys (ovF f q (((imgS s).drop q).take m)))) := by
  refine fn_enterW (args := [.pointer (some ⟨t, 0, none⟩), .int .i64 (q : Nat), .int .i64 (m : Nat)]) Try.func8 rfl Try.ntmps8 (by simp) ?_
  obtain ⟨rfl, hC⟩ := hc
  refine tc_eq (show _ = R * pt p (cl (pocs lg d (some t)) 66) * pt lg (cl (lcs11 d at_ sz) 109) * Dev d s * pt t (cl (txcs p mb false) 69) * pt mb (mpo .i64 M) by unfold TxA; rw [if_neg (by decide)]; ac_rfl) ?_; refine tc_have (fun _ _ h => ct_wf2 (by repeat (first | with_reducible exact ct_here | apply ct_left)) h) fun hwf => ?_
  have htop := hwf.top
  have hil := imgS_len hwf
  obtain ⟨xs, hxs⟩ : ∃ xs, (((imgS s).drop q).take m) = xs := ⟨_, rfl⟩
  have hxl : xs.length = m := by rw [← hxs, List.length_take, List.length_drop]; omega
  refine sr ?_; refine tla ?_; refine tla ?_; refine nq ?_; refine tc_seq ?_; refine sr ?_; refine tlm ?_; refine tl_c rfl (o_call bd27 rfl (begun12_c (s := s))) ?_; rintro _ _ ⟨rfl, rfl⟩; refine tla ?_; refine nq ?_; refine sr ?_; refine tlm ?_; refine tv (o_nei rfl rfl) ?_; refine nq ?_; refine tc_cond rfl (fun h => ?_) (fun h => ?_)
  · exfalso; simp at h
  · try simp only [lv1, lv2, lv3, lv4, lv5, lv6, Bool.not_true, Bool.not_false] at h
    refine tc_skip ?_; refine q_then_n ?_; refine sr ?_; refine tlm ?_; refine tv (o_nilCheck rfl) ?_; refine tv (o_fieldAddr (o := 0) Try.underlying69 rfl rfl sz27 rfl) ?_; refine tv (o_load p27 rfl (by repeat (first | with_reducible exact has_here | with_reducible exact has_pt | apply has_left)) rfl) ?_; refine tv (o_nilCheck rfl) ?_; refine tv (o_fieldAddr (o := 0) Try.underlying66 rfl rfl sz26 rfl) ?_; refine tv (o_load p26 rfl (by repeat (first | with_reducible exact has_here | with_reducible exact has_pt | apply has_left)) rfl) ?_; refine tlm ?_; refine tlm ?_; refine tl_c rfl (o_call bd28 rfl (Load_c (s := s) (p := q) (m := m))) ?_; rintro _ _ ⟨a29, c29, rfl, hc29, rfl⟩
    rw [hxs]
    refine tlm ?_; refine tv (o_extract rfl rfl) ?_; refine tv (o_extract rfl rfl) ?_; refine tla ?_; refine tla ?_; refine nq ?_; refine tc_seq ?_; refine sr ?_; refine tlm ?_; refine tv (o_len Try.underlying22 rfl) ?_; refine tlm ?_; refine nq ?_; refine tc_block ?_; refine tc_loop (fun kk ρ BB => ∃ (i : Nat), (i ≤ m) ∧ kk = m - i ∧ ρ 34 = .int .i64 (i : Nat) ∧ ρ 0 = .pointer (some ⟨t, 0, none⟩) ∧ ρ 1 = .int .i64 (q : Nat) ∧ ρ 9 = .slice a29 m c29 ∧ ρ 10 = .int .i64 0 ∧ ρ 33 = .int .i64 (m : Nat) ∧ Dr BB (R * pt p (cl (pocs lg d (some t)) 66) * pt lg (cl (lcs11 d at_ sz) 109) * Dev d s * pt t (cl (txcs p mb false) 69) * pt mb (mpo .i64 M) * Sl 1 (.slice a29 m c29) m (bys (ovK f q i xs)))) (m := m - (0)) ?_ ?_
    · exact ⟨0, by omega, rfl, rfl, rfl, rfl, rfl, rfl, rfl, by rw [ovK_zero]; exact dr_refl⟩
    · intro k ρ B hI
      obtain ⟨i, hp0, hkk1, hE34, hE0, hE1, hE9, hE10, hE33, hBA⟩ := hI
      refine tc_pre hBA.sat ?_
      clear hBA
      refine tc_env (d := 34) hE34 ?_; refine tc_env (d := 0) hE0 ?_; refine tc_env (d := 1) hE1 ?_; refine tc_env (d := 9) hE9 ?_; refine tc_env (d := 10) hE10 ?_; refine tc_env (d := 33) hE33 ?_
      clear hE34 hE0 hE1 hE9 hE10 hE33
      refine sr ?_; refine tv (o_lss rfl rfl) ?_; refine nq ?_; refine tc_seq ?_; refine tc_cond rfl (fun h => ?_) (fun h => ?_)
      · have hi : i < xs.length := by simp at h; omega
        have hget := hM.get (q + i)
        obtain ⟨o, ho9⟩ : ∃ o, f (q + i) = o := ⟨_, rfl⟩
        rw [ho9] at hget
        have hkl := ovK_len f q i xs
        refine tc_skip ?_; refine q_then_n ?_; refine tc_seq ?_; refine tc_block ?_; refine sr ?_; refine tlm ?_; refine tla ?_; refine nq ?_; refine sr ?_; refine tlm ?_; refine tv (o_nilCheck rfl) ?_; refine tv (o_fieldAddr (o := 1) Try.underlying69 rfl rfl sz67 rfl) ?_; refine tv (o_load p67 rfl (by repeat (first | with_reducible exact has_here | with_reducible exact has_pt | apply has_left)) rfl) ?_; refine tlm ?_; refine tlm ?_; refine tv (by first | exact o_addI rfl rfl (by omega) | exact o_add rfl rfl) ?_; refine tl_env (d := 44) (v := .int .i64 ((q + i : Nat) : Int)) (by first | rfl | (show Value.int .i64 _ = _; congr 1; omega)) ?_; refine tv (o_lookupOk (ik := .i64) Try.underlying67 Try.underlying3 z71 rfl rfl (by repeat (first | with_reducible exact has_here | with_reducible exact has_pt | apply has_left))) ?_; refine tl_env (d := 45) (v := .tuple #[.agg (cel0 (o.getD (0, false))).toArray, .bool o.isSome]) (by show Value.tuple #[(M.get ((q + i : Nat) : Int)).getD _, .bool (M.get ((q + i : Nat) : Int)).isSome] = _; rw [hget]; cases o <;> rfl) ?_; refine tlm ?_; refine tv (o_extract rfl rfl) ?_; refine tv (o_extract rfl rfl) ?_; refine tl_x rfl (o_alloc z71 rfl) ?_; rintro _ _ ⟨b12, rfl, rfl⟩; refine tl_u rfl (o_stUN (l' := cel0 (o.getD (0, false))) rfl (by repeat (first | with_reducible exact upd_here | with_reducible exact upd_pt | apply upd_left)) sz71 rfl rfl rfl (by show 2 ≤ 2; decide) rfl) ?_
        refine tla ?_; refine nq ?_; refine sr ?_; refine tlm ?_; refine nq ?_; refine tc_cut (fun ρ BB => ρ 0 = .pointer (some ⟨t, 0, none⟩) ∧ ρ 1 = .int .i64 (q : Nat) ∧ ρ 9 = .slice a29 m c29 ∧ ρ 10 = .int .i64 0 ∧ ρ 33 = .int .i64 (m : Nat) ∧ ρ 34 = .int .i64 (i : Nat) ∧ Dr BB (R * pt p (cl (pocs lg d (some t)) 66) * pt lg (cl (lcs11 d at_ sz) 109) * Dev d s * pt t (cl (txcs p mb false) 69) * pt mb (mpo .i64 M) * Sl 1 (.slice a29 m c29) m (bys (ovK f q (i + 1) xs)))) ?_ ?_
        · skip
          refine tc_cond rfl (fun h => ?_) (fun h => ?_)
          · obtain ⟨c0, rfl⟩ : ∃ c0, o = some c0 := by cases o <;> simp at h ⊢
            have hc8 := hM.by_ _ _ ho9
            refine tc_reg ?_; refine tlm ?_; refine tlm ?_; refine tv (o_fieldAddr (o := 0) Try.underlying71 rfl rfl sz5 rfl) ?_; refine tv (by first | exact o_load p5 rfl (by repeat (first | with_reducible exact has_here | with_reducible exact has_pt | apply has_left)) rfl | exact o_loadC p5 rfl (by assumption)) ?_; refine tv (o_ixP1 Try.underlying22 sz5 rfl rfl (by omega) (nn_rs (xs := bys (ovK f q i xs)) (by repeat (first | with_reducible exact rs_sl | apply Rs.left)) (by rw [bys_length]; omega))) ?_; refine tl_u rfl (o_stP (ys := bys ((ovK f q i xs).set i c0.1)) sz5 rfl rfl rfl (by repeat (first | with_reducible exact ct_here | apply ct_left)) (by omega) (bys_set _ _ _)) ?_; refine tl_nil ?_; exact ⟨rfl, rfl, rfl, rfl, rfl, rfl, by first | (rw [ovK_none ho9]; exact dr_drop dr_refl) | (rw [← ovK_some ho9 hi]; repeat (first | with_reducible exact dr_refl | apply dr_keep | apply dr_drop))⟩
          · obtain rfl : o = none := by cases o <;> simp at h ⊢
            refine tc_skip ?_; exact ⟨rfl, rfl, rfl, rfl, rfl, rfl, by first | (rw [ovK_none ho9]; exact dr_drop dr_refl) | (rw [← ovK_some ho9 hi]; repeat (first | with_reducible exact dr_refl | apply dr_keep | apply dr_drop))⟩
        · intro ρ B hI
          obtain ⟨hE0, hE1, hE9, hE10, hE33, hE34, hBA⟩ := hI
          refine q_block_n (q_then_n ?_); refine tc_pre hBA.sat ?_
          clear hBA
          refine tc_env (d := 0) hE0 ?_; refine tc_env (d := 1) hE1 ?_; refine tc_env (d := 9) hE9 ?_; refine tc_env (d := 10) hE10 ?_; refine tc_env (d := 33) hE33 ?_; refine tc_env (d := 34) hE34 ?_
          clear hE0 hE1 hE9 hE10 hE33 hE34
          refine tc_reg ?_; refine tv (by first | exact o_addI rfl rfl (by omega) | exact o_add rfl rfl) ?_; refine tlm ?_; refine nq ?_; exact ⟨_, by omega, i + 1, by omega, rfl, rfl, rfl, rfl, rfl, rfl, rfl, (by repeat (first | with_reducible exact dr_refl | apply dr_keep | apply dr_drop))⟩
      · obtain rfl : i = m := by simp at h; omega
        refine tc_exit ?_; refine q_then_e (q_then_e (q_block_x (q_then_n ?_))); refine sr ?_; refine tlm ?_; refine tlm ?_; refine tla ?_; refine tla ?_; refine nq ?_; refine tc_ret ?_
        have e9 : ovK f q i xs = ovF f q xs := by rw [← hxl]; exact ovK_all f q xs
        rw [e9]
        exact ⟨_, R * TxA t p lg d mb at_ sz M false s * Sl 1 (.slice a29 i c29) i (bys (ovF f q xs)), res2 rfl rfl rfl, fun g w h => (Dr.sat (A' := R * pt p (cl (pocs lg d (some t)) 66) * pt lg (cl (lcs11 d at_ sz) 109) * Dev d s * pt t (cl (txcs p mb false) 69) * pt mb (mpo .i64 M) * Sl 1 (.slice a29 i c29) i (bys (ovF f q xs))) (by repeat (first | with_reducible exact dr_refl | apply dr_keep | apply dr_drop)) g w h).perm (by unfold TxA; rw [if_neg (by decide)]; ac_rfl), a29, c29, rfl, hc29, rfl⟩
theorem Extents12_c {A : SP} {p t mb n : Nat} {M : MS} {f : TF} {L : List (Nat × List Nat)} (ht : Has A t (cl (txcs p mb false) 69) := by (repeat (first | assumption | with_reducible exact has_here | with_reducible exact has_pt | apply has_left))) (hmb : Has A mb (mpo .i64 M) := by (repeat (first | assumption | with_reducible exact has_here | with_reducible exact has_pt | apply has_left))) (hM : MF M n f) (hn : n ≤ 4194304 := by omega) (hX : runsF n false f = L) (hLl : L.length ≤ 4194304) :
    Fn Try.prog 11 #[.pointer (some ⟨t, 0, none⟩)] (A) (fun r B => ∃ a c, r = .slice a L.length c ∧ L.length ≤ c ∧ B = A * Sl 2 (.slice a L.length c) L.length (xcl (extX L))) := by
  refine fn_enterW (args := [.pointer (some ⟨t, 0, none⟩)]) Try.func11 rfl Try.ntmps11 (by simp) ?_; refine sr ?_; refine tla ?_; refine nq ?_; refine tc_seq ?_; refine sr ?_; refine tlm ?_; refine tv (o_eqp Try.underlying28 rfl rfl) ?_; refine tlm ?_; refine tl_bool (d := 8) rfl (fun h => ?_) (fun h => ?_)
  · exfalso; simp at h
  · try simp only [lv1, lv2, lv3, lv4, lv5, lv6, Bool.not_true, Bool.not_false] at h
    refine tlm ?_; refine tv (o_nilCheck rfl) ?_; refine tv (o_fieldAddr (o := 0) Try.underlying69 rfl rfl sz27 rfl) ?_; refine tv (o_load p27 rfl ht rfl) ?_; refine tv (o_eqp Try.underlying27 rfl rfl) ?_; refine tv (o_pick_f rfl (by conv => lhs; whnf)) ?_; refine tlm ?_; refine tl_bool (d := 15) rfl (fun h => ?_) (fun h => ?_)
    · exfalso; simp at h
    · try simp only [lv1, lv2, lv3, lv4, lv5, lv6, Bool.not_true, Bool.not_false] at h
      refine tlm ?_; refine tv (o_nilCheck rfl) ?_; refine tv (o_fieldAddr (o := 2) Try.underlying69 rfl rfl sz4 rfl) ?_; refine tv (o_load p4 rfl ht rfl) ?_; refine tv (o_pick_f rfl (by conv => lhs; whnf)) ?_; refine nq ?_; refine tc_cond rfl (fun h => ?_) (fun h => ?_)
      · exfalso; simp at h
      · try simp only [lv1, lv2, lv3, lv4, lv5, lv6, Bool.not_true, Bool.not_false] at h
        refine tc_skip ?_; refine q_then_n ?_; refine sr ?_; refine tla ?_; refine nq ?_; refine tc_seq ?_; refine sr ?_; refine tlm ?_; refine tl_c rfl (o_call bd30 rfl (runs12_w ht hmb hM hn hX)) ?_; rintro _ _ ⟨a22, c22, vs, rfl, hc22, hvs, rfl⟩; refine tl_have (fun _ _ h => parts_getD hvs h.left) fun hps => ?_; refine tv (o_len Try.underlying73 rfl) ?_; refine tlm ?_; refine nq ?_; refine tc_block ?_; refine tc_pre (A' := A * Parts vs (L.map (·.2)) * Sl 2 (.slice a22 L.length c22) L.length (kcl L vs) * Sl 2 (.slice none 0 0) 0 []) (fun _ _ h => sl_nil h) ?_; refine tc_loop (fun kk ρ BB => ∃ (i : Nat) (a3 : Option Addr) (c3 : Nat), (i ≤ L.length) ∧ (i ≤ c3) ∧ kk = L.length - i ∧ ρ 3 = .slice a3 i c3 ∧ ρ 24 = .int .i64 (i : Nat) ∧ ρ 22 = .slice a22 L.length c22 ∧ ρ 23 = .int .i64 (L.length : Nat) ∧ Dr BB (A * Parts vs (L.map (·.2)) * Sl 2 (.slice a22 L.length c22) L.length (kcl L vs) * Sl 2 (.slice a3 i c3) i (xcl (extX (L.take i))))) (m := L.length - (0)) ?_ ?_
        · exact ⟨0, none, 0, by omega, by omega, rfl, rfl, rfl, rfl, rfl, by rw [List.take_zero, show extX [] = [] from rfl, xcl_nil]; exact dr_refl⟩
        · intro k ρ B hI
          obtain ⟨i, a3, c3, hp0, hp1, hkk1, hE3, hE24, hE22, hE23, hBA⟩ := hI
          refine tc_pre hBA.sat ?_
          clear hBA
          refine tc_env (d := 3) hE3 ?_; refine tc_env (d := 24) hE24 ?_; refine tc_env (d := 22) hE22 ?_; refine tc_env (d := 23) hE23 ?_
          clear hE3 hE24 hE22 hE23
          refine sr ?_; refine tv (o_lss rfl rfl) ?_; refine nq ?_; refine tc_seq ?_; refine tc_cond rfl (fun h => ?_) (fun h => ?_)
          · have hi : i < L.length := by simp at h; omega
            obtain ⟨xb, xc, hv, hxc⟩ := hps i hi
            have hkat := kcl_at hvs hi
            rw [hv] at hkat
            refine tc_skip ?_; refine q_then_n ?_; refine tc_seq ?_; refine tc_block ?_; refine sr ?_; refine tv (o_ixP (a := a22) Try.underlying73 sz76 rfl rfl (by omega) (nn_rs (xs := kcl L vs) (by repeat (first | with_reducible exact rs_sl | apply Rs.left)) (fun _ => by rw [kcl_len hvs]; omega))) ?_; refine tv (o_ldPN (a := a22) (xs := kcl L vs) (vs := [.int .i64 (((L.getD i (0, [])).1 : Nat) : Int), .slice xb (L.getD i (0, [])).2.length xc]) a76 sz76 rfl (by repeat (first | with_reducible exact rs_sl | apply Rs.left)) hkat rfl (by decide)) ?_; refine tl_x rfl (o_alloc z76 rfl) ?_; rintro _ _ ⟨b5, rfl, rfl⟩; refine tl_u rfl (o_stUN (l' := [.int .i64 (((L.getD i (0, [])).1 : Nat) : Int), .slice xb (L.getD i (0, [])).2.length xc]) rfl (by repeat (first | with_reducible exact upd_here | with_reducible exact upd_pt | apply upd_left)) sz76 rfl rfl rfl (by show 2 ≤ 2; decide) rfl) ?_; refine nq ?_; refine tc_reg ?_; refine tlm ?_; refine tv (o_fieldAddr (o := 0) Try.underlying76 rfl rfl sz3 rfl) ?_; refine tv (o_load p3 rfl (by repeat (first | with_reducible exact has_here | with_reducible exact has_pt | apply has_left)) rfl) ?_; refine tv (o_fieldAddr (o := 1) Try.underlying76 rfl rfl sz22 rfl) ?_; refine tv (o_load p22 rfl (by repeat (first | with_reducible exact has_here | with_reducible exact has_pt | apply has_left)) rfl) ?_
            refine tv (o_len Try.underlying22 rfl) ?_; refine tv (o_bS (l := [_, _]) (pv_cons (by conv => lhs; whnf) (pv_cons (by conv => lhs; whnf) pv_nil)) Try.underlying46 z46 (pl46 Try.underlying46) rfl) ?_; refine tl_x rfl (o_buildSliceK (k := 2) (l := xcs ((((L.getD i (0, [])).1 : Nat) : Int), (((L.getD i (0, [])).2.length : Nat) : Int))) Try.underlying43 sz46 z46 rfl rfl (by decide)) ?_; rintro _ _ ⟨b35, rfl, rfl⟩; refine tl_x rfl (o_apB Try.underlying43 Try.underlying43 sz46 by46 z46 rfl (by decide) (by decide) rfl rfl rfl (by repeat (first | with_reducible exact ct_here | apply ct_left)) rfl rfl (by omega) rfl) ?_; rintro _ _ ⟨a36, c36, rfl, hc36, rfl⟩; refine tla ?_; refine tl_nil ?_; refine q_block_n (q_then_n ?_); refine tc_reg ?_; refine tv (by first | exact o_addI rfl rfl (by omega) | exact o_add rfl rfl) ?_; refine tlm ?_; refine nq ?_; exact ⟨_, by omega, i + 1, _, _, by omega, hc36, rfl, rfl, rfl, rfl, rfl, by rw [ext_succ hi, xcl_sn]; repeat (first | with_reducible exact dr_refl | apply dr_keep | apply dr_drop)⟩
          · obtain rfl : i = L.length := by simp at h; omega
            rw [List.take_length]
            refine tc_exit ?_; refine q_then_e (q_then_e (q_block_x (q_then_n ?_))); refine sr ?_; refine tlm ?_; refine tla ?_; refine nq ?_; refine tc_ret ?_; exact ⟨_, _, res1 rfl rfl, Dr.sat (by repeat (first | with_reducible exact dr_refl | apply dr_keep | apply dr_drop)), a3, c3, rfl, hp1, rfl⟩
theorem DropT_c {A R : SP} {C : SP → SP} {t p lg d mb at_ sz : Nat} {M : MS} {s : DevS} (hc : Ct A (TxA t p lg d mb at_ sz M false s) R C := by repeat (first | with_reducible exact ct_here | apply ct_left)) :
    Fn Try.prog 14 #[.pointer (some ⟨t, 0, none⟩)] (A) (fun r B => r = .int .i64 0 ∧ B = C (TxA t p lg d mb at_ sz M.clr true s)) := by
  refine fn_enterW (args := [.pointer (some ⟨t, 0, none⟩)]) Try.func14 rfl Try.ntmps14 (by simp) ?_
  obtain ⟨rfl, hC⟩ := hc
  refine tc_eq (show _ = R * pt p (cl (pocs lg d (some t)) 66) * pt lg (cl (lcs11 d at_ sz) 109) * Dev d s * pt t (cl (txcs p mb false) 69) * pt mb (mpo .i64 M) by unfold TxA; rw [if_neg (by decide)]; ac_rfl) ?_; refine tc_have (fun _ _ h => ct_wf2 (by repeat (first | with_reducible exact ct_here | apply ct_left)) h) fun hwf => ?_
  have htop := hwf.top
  refine sr ?_; refine tla ?_; refine nq ?_; refine tc_seq ?_; refine tc_block ?_; refine sr ?_; refine tlm ?_; refine tv (o_eqp Try.underlying28 rfl rfl) ?_; refine tlm ?_; refine tl_bool (d := 6) rfl (fun h => ?_) (fun h => ?_)
  · exfalso; simp at h
  · try simp only [lv1, lv2, lv3, lv4, lv5, lv6, Bool.not_true, Bool.not_false] at h
    refine tlm ?_; refine tv (o_nilCheck rfl) ?_; refine tv (o_fieldAddr (o := 0) Try.underlying69 rfl rfl sz27 rfl) ?_; refine tv (o_load p27 rfl (by repeat (first | with_reducible exact has_here | with_reducible exact has_pt | apply has_left)) rfl) ?_; refine tv (o_eqp Try.underlying27 rfl rfl) ?_; refine tv (o_pick_f rfl (by conv => lhs; whnf)) ?_; refine tla ?_; refine nq ?_; refine tc_cond rfl (fun h => ?_) (fun h => ?_)
    · exfalso; simp at h
    · try simp only [lv1, lv2, lv3, lv4, lv5, lv6, Bool.not_true, Bool.not_false] at h
      refine sr ?_; refine tlm ?_; refine tv (o_nilCheck rfl) ?_; refine tv (o_fieldAddr (o := 2) Try.underlying69 rfl rfl sz4 rfl) ?_; refine tv (o_load p4 rfl (by repeat (first | with_reducible exact has_here | with_reducible exact has_pt | apply has_left)) rfl) ?_; refine tla ?_; refine nq ?_; refine tc_cond rfl (fun h => ?_) (fun h => ?_)
      · exfalso; simp at h
      · try simp only [lv1, lv2, lv3, lv4, lv5, lv6, Bool.not_true, Bool.not_false] at h
        refine tc_skip ?_; refine q_block_n (q_then_n ?_); refine sr ?_; refine tlm ?_; refine tl_c rfl (o_call bd33 rfl (end12_c (R := R * pt lg (cl (lcs11 d at_ sz) 109) * Dev d s) (p := p) (lg := lg) (d := d) (mb := mb) (M := M) (over := false) (hA := by first | rfl | ac_rfl))) ?_; rintro _ _ ⟨rfl, rfl⟩; refine nq ?_; refine sr ?_; refine tla ?_; refine nq ?_; refine tc_ret ?_; exact ⟨.int .i64 0, _, res1 rfl rfl, fun g w h => by rw [hC]; exact h.perm (by unfold TxA; rw [if_pos rfl]; ac_rfl), rfl, rfl⟩
theorem DropO_c {A : SP} {p t mb : Nat} (ht : Has A t (cl (txcs p mb true) 69) := by (repeat (first | assumption | with_reducible exact has_here | with_reducible exact has_pt | apply has_left))) :
    Fn Try.prog 14 #[.pointer (some ⟨t, 0, none⟩)] (A) (fun r B => r = .int .i64 3 ∧ A = B) := by
  refine fn_enterW (args := [.pointer (some ⟨t, 0, none⟩)]) Try.func14 rfl Try.ntmps14 (by simp) ?_; refine sr ?_; refine tla ?_; refine nq ?_; refine tc_seq ?_; refine tc_block ?_; refine sr ?_; refine tlm ?_; refine tv (o_eqp Try.underlying28 rfl rfl) ?_; refine tlm ?_; refine tl_bool (d := 6) rfl (fun h => ?_) (fun h => ?_)
  · exfalso; simp at h
  · try simp only [lv1, lv2, lv3, lv4, lv5, lv6, Bool.not_true, Bool.not_false] at h
    refine tlm ?_; refine tv (o_nilCheck rfl) ?_; refine tv (o_fieldAddr (o := 0) Try.underlying69 rfl rfl sz27 rfl) ?_; refine tv (o_load p27 rfl ht rfl) ?_; refine tv (o_eqp Try.underlying27 rfl rfl) ?_; refine tv (o_pick_f rfl (by conv => lhs; whnf)) ?_; refine tla ?_; refine nq ?_; refine tc_cond rfl (fun h => ?_) (fun h => ?_)
    · exfalso; simp at h
    · try simp only [lv1, lv2, lv3, lv4, lv5, lv6, Bool.not_true, Bool.not_false] at h
      refine sr ?_; refine tlm ?_; refine tv (o_nilCheck rfl) ?_; refine tv (o_fieldAddr (o := 2) Try.underlying69 rfl rfl sz4 rfl) ?_; refine tv (o_load p4 rfl ht rfl) ?_; refine tla ?_; refine nq ?_; refine tc_cond rfl (fun h => ?_) (fun h => ?_)
      · try simp only [lv1, lv2, lv3, lv4, lv5, lv6, Bool.not_true, Bool.not_false] at h
        refine sr ?_; refine tla ?_; refine nq ?_; refine tc_ret ?_; refine q_block_r (q_then_r ?_); exact ⟨.int .i64 3, _, res1 rfl rfl, Dr.sat (by repeat (first | with_reducible exact dr_refl | apply dr_keep | apply dr_drop)), rfl, rfl⟩
      · exfalso; simp at h
end Go.Vl

namespace Go.Vl
open Go Go.Proofs
theorem o_max2 {P : Program} {n : Nat} {ρ : Env} {A : SP} {dst : Option Tmp} {ty t t' : TypeId} {pos : String} {after : Array Edge} {gd : Option (Nat × Bool)} {x y : Operand} {a b : Nat} (hu : P.underlying ty = some (.int .i64)) (hx : ev n ρ x = .int .i64 (a : Nat)) (hy : ev n ρ y = .int .i64 (b : Nat)) :
    OpV P n ρ A ⟨dst, .call { callee := .builtin .max, args := #[x, y], argTypes := #[t, t'] }, ty, pos, after, gd⟩ (.int .i64 ((max a b : Nat) : Int)) := fun g w hs => by
  simp only [execOp, resolve, List.map_toArray, List.map_cons, List.map_nil, hx, hy]
  rw [run_bind (w' := w) (a := ⟨.builtin .max #[t, t'] ty _, #[.int .i64 (a : Nat), .int .i64 (b : Nat)]⟩) (by rfl)]
  simp only [invoke, builtin]
  rw [run_bind (w' := w) (a := .int .i64 ((max a b : Nat) : Int))]
  · rfl
  have e : (if (b : Int) > (a : Int) then (b : Int) else (a : Int)) = ((max a b : Nat) : Int) := by split <;> omega
  simp [Builtin.max_, Builtin.max2, List.foldlM, Sem.run_bind, ← e]
theorem drop_getD {L : List (Nat × List Nat)} {i : Nat} (h : i < L.length) : L.drop i = L.getD i (0, []) :: L.drop (i + 1) := by
  rw [List.drop_eq_getElem_cons h, List.getD_eq_getElem?_getD, List.getElem?_eq_getElem h]; rfl
theorem stoL_cons (r : Nat × List Nat) (l : List (Nat × List Nat)) (s : DevS) : stoL (r :: l) s = if (sto (r.1 : Nat) r.2 s).1 ≠ 0 then sto (r.1 : Nat) r.2 s else stoL l (sto (r.1 : Nat) r.2 s).2 := rfl
theorem stoL_e {L : List (Nat × List Nat)} {i : Nat} {s s2 : DevS} {e : Int} (hi : i < L.length) (h : sto ((L.getD i (0, [])).1 : Nat) (L.getD i (0, [])).2 s = (e, s2)) (he : e ≠ 0) : stoL (L.drop i) s = (e, s2) := by
  rw [drop_getD hi, stoL_cons, h, if_pos he]
theorem stoL_o {L : List (Nat × List Nat)} {i : Nat} {s s2 : DevS} (hi : i < L.length) (h : sto ((L.getD i (0, [])).1 : Nat) (L.getD i (0, [])).2 s = (0, s2)) : stoL (L.drop i) s = stoL (L.drop (i + 1)) s2 := by
  rw [drop_getD hi, stoL_cons, h, if_neg (by simp)]
theorem linR_at {L : List (Nat × List Nat)} {j dn : Nat} (h : j < L.length) : linR (L.drop j) dn = (List.range ((((L.getD j (0, [])).1 + (L.getD j (0, [])).2.length - 1) / 64) + 1 - (max ((L.getD j (0, [])).1 / 64) dn))).map (fun i => (max ((L.getD j (0, [])).1 / 64) dn) + i) ++ linR (L.drop (j + 1)) (max dn ((((L.getD j (0, [])).1 + (L.getD j (0, [])).2.length - 1) / 64) + 1)) := by
  rw [drop_getD h]; rfl
theorem flLs_cons (q : Nat) (l : List Nat) (s : DevS) : flLs (q :: l) s = if (fl1 ((q * 64 : Nat) : Int) s).1 ≠ 0 then fl1 ((q * 64 : Nat) : Int) s else flLs l (fl1 ((q * 64 : Nat) : Int) s).2 := rfl
theorem range_step {k q : Nat} (h : q < k) : (List.range (k - q)).map (fun i => q + i) = q :: (List.range (k - (q + 1))).map (fun i => q + 1 + i) := by
  rw [show k - q = (k - (q + 1)) + 1 by omega, List.range_succ_eq_map, List.map_cons, List.map_map]
  congr 1
  apply List.map_congr_left
  intro i _
  show q + (i + 1) = q + 1 + i
  omega
theorem flLs_e {q : Nat} {l : List Nat} {s s2 : DevS} {e : Int} (h : fl1 ((q * 64 : Nat) : Int) s = (e, s2)) (he : e ≠ 0) : flLs (q :: l) s = (e, s2) := by rw [flLs_cons, h, if_pos he]
theorem flLs_o {q : Nat} {l : List Nat} {s s2 : DevS} (h : fl1 ((q * 64 : Nat) : Int) s = (0, s2)) : flLs (q :: l) s = flLs l s2 := by rw [flLs_cons, h, if_neg (by simp)]
theorem writeT_e {L : List (Nat × List Nat)} {s s1 : DevS} {e : Int} (h : stoL L s = (e, s1)) (he : e ≠ 0) : writeT L s = (e, s1) := by unfold writeT; rw [h, if_pos he]
theorem writeT_o {L : List (Nat × List Nat)} {s s1 : DevS} {X : Int × DevS} (h : stoL L s = (0, s1)) (h2 : flLs (linR L 0) s1 = X) : writeT L s = X := by unfold writeT; rw [h, if_neg (by simp), h2]
/-- What is written lies on the device. -/
def RunW (n : Nat) (L : List (Nat × List Nat)) : Prop := ∀ r ∈ L, 1 ≤ r.2.length ∧ r.1 + r.2.length ≤ n ∧ ∀ b ∈ r.2, b < 256
attribute [local irreducible] crk crL crc Sl pt ro Dev imgS recS readS recsF rdW rdO rkT Parts rvl recordsS runsL adrF kcl xcl kys runA runsF layF linR flLs stoL
set_option maxRecDepth 20000 in
set_option maxHeartbeats 1000000 in
theorem write12_c {A R : SP} {C : SP → SP} {d : Nat} {s : DevS} (hc : Ct A (Dev d s) R C := by repeat (first | with_reducible exact ct_here | apply ct_left)) {p lg t mb : Nat} {ov : Option Nat} {over : Bool} (ht : Has R t (cl (txcs p mb over) 69) := by (repeat (first | assumption | with_reducible exact has_here | with_reducible exact has_pt | apply has_left))) (hp : Has R p (cl (pocs lg d ov) 66) := by (repeat (first | assumption | with_reducible exact has_here | with_reducible exact has_pt | apply has_left))) {a : Option Addr} {c m n : Nat} {L : List (Nat × List Nat)} {vs : List Value} (hr : Rs R a (kcl L vs) := by repeat (first | assumption | with_reducible exact rs_sl | with_reducible exact rs_pt0 | exact rs_none | apply Rs.left)) (hvs : vs.length = L.length := by assumption) (hps : PsR R L vs) (hcp : ∀ k, k < L.length → ∃ b c, vs.getD k (.slice none 0 0) = .slice b (L.getD k (0, [])).2.length c ∧ (L.getD k (0, [])).2.length ≤ c) (hW : RunW n L) (hn : n = s.ls.length * 64 := by omega) (hm : L.length = m := by first | assumption | rfl) (hml : m ≤ 4194304 := by omega) (hroom : Room (sumL L) s := by assumption) :
    Fn Try.prog 43 #[.pointer (some ⟨t, 0, none⟩), .slice a m c] (A) (fun r B => ∃ e s2, writeT L s = (e, s2) ∧ r = .int .i64 e ∧ B = C (Dev d s2)) := by
  refine fn_enterW (args := [.pointer (some ⟨t, 0, none⟩), .slice a m c]) Try.func43 rfl Try.ntmps43 (by simp) ?_
  obtain ⟨rfl, hC⟩ := hc
  refine tc_have (fun _ _ h => ct_wf2 (by repeat (first | with_reducible exact ct_here | apply ct_left)) h) fun hwf => ?_
  have htop := hwf.top
  refine sr ?_; refine tla ?_; refine nq ?_; refine sr ?_; refine tlm ?_; refine tv (o_nilCheck rfl) ?_; refine tv (o_fieldAddr (o := 0) Try.underlying69 rfl rfl sz27 rfl) ?_; refine tv (o_load p27 rfl (by repeat (first | assumption | apply has_left)) rfl) ?_; refine tv (o_nilCheck rfl) ?_; refine tv (o_fieldAddr (o := 0) Try.underlying66 rfl rfl sz26 rfl) ?_; refine tv (o_load p26 rfl (by repeat (first | assumption | apply has_left)) rfl) ?_; refine tla ?_; refine nq ?_; refine tc_seq ?_; refine sr ?_; refine tlm ?_; refine tv (o_len Try.underlying73 rfl) ?_; refine tlm ?_; refine nq ?_; refine tc_block ?_; refine tc_loop (fun kk ρ BB => ∃ (i : Nat) (s1 : DevS), (i ≤ m) ∧ (stoL (L.drop i) s1 = stoL L s) ∧ (s1.ls.length = s.ls.length) ∧ (Room (sumL (L.drop i)) s1) ∧ kk = m - i ∧ ρ 23 = .int .i64 (i : Nat) ∧ ρ 1 = .slice a m c ∧ ρ 5 = .pointer (some ⟨d, 0, none⟩) ∧ ρ 21 = .slice a m c ∧ ρ 22 = .int .i64 (m : Nat) ∧ Dr BB (R * Dev d s1)) (m := m - (0)) ?_ ?_
  · exact ⟨0, s, by omega, rfl, rfl, by rw [List.drop_zero]; exact hroom, rfl, rfl, rfl, rfl, rfl, rfl, (by repeat (first | with_reducible exact dr_refl | apply dr_keep | apply dr_drop))⟩
  · intro k ρ B hI
    obtain ⟨i, s1, hp0, hp1, hp2, hp3, hkk1, hE23, hE1, hE5, hE21, hE22, hBA⟩ := hI
    refine tc_pre hBA.sat ?_
    clear hBA
    refine tc_env (d := 23) hE23 ?_; refine tc_env (d := 1) hE1 ?_; refine tc_env (d := 5) hE5 ?_; refine tc_env (d := 21) hE21 ?_; refine tc_env (d := 22) hE22 ?_
    clear hE23 hE1 hE5 hE21 hE22
    refine sr ?_; refine tv (o_lss rfl rfl) ?_; refine nq ?_; refine tc_seq ?_; refine tc_cond rfl (fun h => ?_) (fun h => ?_)
    · have hi : i < L.length := by simp at h; omega
      obtain ⟨hw1_, hw2_, hwb⟩ := hW _ (getD_mem hi)
      obtain ⟨xb, xc, hv, hrb, hrl⟩ := hps i hi
      obtain ⟨xb2, xc2, hv2, hxc⟩ := hcp i hi
      rw [hv] at hv2
      simp only [Value.slice.injEq] at hv2
      obtain ⟨rfl, _, rfl⟩ := hv2
      have hkat := kcl_at hvs hi
      rw [hv] at hkat
      refine tc_have (fun _ _ h => ct_wf2 (by repeat (first | with_reducible exact ct_here | apply ct_left)) h) fun hw1 => ?_; refine tc_skip ?_; refine q_then_n ?_; refine tc_seq ?_; refine tc_block ?_; refine sr ?_; refine tv (o_ixP (a := a) Try.underlying73 sz76 rfl rfl (by omega) (nn_rs (xs := kcl L vs) (by repeat (first | exact hr | apply Rs.left)) (fun _ => by rw [kcl_len hvs]; omega))) ?_; refine tv (o_ldPN (a := a) (xs := kcl L vs) (vs := [.int .i64 (((L.getD i (0, [])).1 : Nat) : Int), .slice xb (L.getD i (0, [])).2.length xc]) a76 sz76 rfl (by repeat (first | exact hr | apply Rs.left)) hkat rfl (by decide)) ?_; refine tl_x rfl (o_alloc z76 rfl) ?_; rintro _ _ ⟨b7, rfl, rfl⟩; refine tl_u rfl (o_stUN (l' := [.int .i64 (((L.getD i (0, [])).1 : Nat) : Int), .slice xb (L.getD i (0, [])).2.length xc]) rfl (by repeat (first | with_reducible exact upd_here | with_reducible exact upd_pt | apply upd_left)) sz76 rfl rfl rfl (by show 2 ≤ 2; decide) rfl) ?_; refine nq ?_; refine sr ?_; refine tlm ?_; refine tv (o_fieldAddr (o := 0) Try.underlying76 rfl rfl sz3 rfl) ?_; refine tv (o_load p3 rfl (by repeat (first | with_reducible exact has_here | with_reducible exact has_pt | apply has_left)) rfl) ?_; refine tv (o_fieldAddr (o := 1) Try.underlying76 rfl rfl sz22 rfl) ?_; refine tv (o_load p22 rfl (by repeat (first | with_reducible exact has_here | with_reducible exact has_pt | apply has_left)) rfl) ?_
      refine tl_c rfl (o_call bd55 rfl (Store_c (s := s1) (p := (((L.getD i (0, [])).1 : Nat) : Int)) (xs := (L.getD i (0, [])).2) (hr := by repeat (first | exact hrb | apply Rs.left)) (hm := rfl) (hb := hwb) (hroom := fun _ l hl => by have h9 := hp3 l hl; rw [drop_getD hi, sumL_cons] at h9; omega))) ?_; rintro _ _ ⟨e32, s32, hs32, rfl, rfl⟩; refine tla ?_; refine nq ?_; refine sr ?_; refine tlm ?_; refine tv (o_nei rfl rfl) ?_; refine nq ?_; refine tc_cond rfl (fun h => ?_) (fun h => ?_)
      · have he0 : e32 ≠ 0 := by simpa using h
        refine sr ?_; refine tlm ?_; refine tla ?_; refine nq ?_; refine tc_ret ?_; refine q_block_r (q_then_r (q_then_r (q_block_r (q_then_r ?_)))); exact ⟨.int .i64 (e32), C (Dev d s32), res1 rfl rfl, fun _ _ h => by rw [hC]; exact (Dr.sat (A' := R * Dev d s32) (by repeat (first | with_reducible exact dr_refl | apply dr_keep | apply dr_drop))) _ _ h, e32, s32, writeT_e (by rw [← hp1]; exact stoL_e hi hs32 he0) he0, rfl, rfl⟩
      · obtain rfl : e32 = 0 := by simpa using h
        refine tc_skip ?_; refine q_block_n (q_then_n ?_); refine tc_reg ?_; refine tv (by first | exact o_addI rfl rfl (by omega) | exact o_add rfl rfl) ?_; refine tlm ?_; refine nq ?_; exact ⟨_, by omega, i + 1, _, by omega, by rw [← hp1]; exact (stoL_o hi hs32).symm, by have h9 := sto_len (((L.getD i (0, [])).1 : Nat) : Int) (L.getD i (0, [])).2 s1; rw [hs32] at h9; exact h9.trans hp2, sto_room hs32 hw1 hwb (by rw [Nat.add_comm, ← sumL_cons, ← drop_getD hi]; exact hp3), rfl, rfl, rfl, rfl, rfl, rfl, (by repeat (first | with_reducible exact dr_refl | apply dr_keep | apply dr_drop))⟩
    · obtain rfl : i = m := by simp at h; omega
      have hst : stoL L s = (0, s1) := by rw [← hp1, List.drop_eq_nil_of_le (by omega)]; unfold stoL; rfl
      refine tc_exit ?_; refine q_then_e (q_then_e (q_block_x (q_then_n ?_))); refine sr ?_; refine tla ?_; refine nq ?_; refine tc_seq ?_; refine sr ?_; refine tlm ?_; refine tv (o_len Try.underlying73 rfl) ?_; refine tlm ?_; refine nq ?_; refine tc_block ?_; refine tc_loop (fun kk ρ BB => ∃ (j : Nat) (dn : Nat) (s2 : DevS), (j ≤ i) ∧ (flLs (linR (L.drop j) dn) s2 = flLs (linR L 0) s1) ∧ (s2.ls.length = s.ls.length) ∧ (dn ≤ 4194304) ∧ kk = i - j ∧ ρ 9 = .int .i64 ((dn : Int) - 1) ∧ ρ 39 = .int .i64 (j : Nat) ∧ ρ 5 = .pointer (some ⟨d, 0, none⟩) ∧ ρ 37 = .slice a i c ∧ ρ 38 = .int .i64 (i : Nat) ∧ Dr BB (R * Dev d s2)) (m := i - (0)) ?_ ?_
      · exact ⟨0, 0, s1, by omega, rfl, hp2, by omega, rfl, rfl, rfl, rfl, rfl, rfl, (by repeat (first | with_reducible exact dr_refl | apply dr_keep | apply dr_drop))⟩
      · intro k ρ B hI
        obtain ⟨j, dn, s2, hq0, hq1, hq2, hq3, hkk2, hE9, hE39, hE5, hE37, hE38, hBA⟩ := hI
        refine tc_pre hBA.sat ?_
        clear hBA
        refine tc_env (d := 9) hE9 ?_; refine tc_env (d := 39) hE39 ?_; refine tc_env (d := 5) hE5 ?_; refine tc_env (d := 37) hE37 ?_; refine tc_env (d := 38) hE38 ?_
        clear hE9 hE39 hE5 hE37 hE38
        refine sr ?_; refine tv (o_lss rfl rfl) ?_; refine nq ?_; refine tc_seq ?_; refine tc_cond rfl (fun h => ?_) (fun h => ?_)
        · have hj : j < L.length := by simp at h; omega
          obtain ⟨hw1_, hw2_, hwb⟩ := hW _ (getD_mem hj)
          obtain ⟨xb, xc, hv, hxc⟩ := hcp j hj
          have hkat := kcl_at hvs hj
          rw [hv] at hkat
          have hla := linR_at (dn := dn) hj
          rw [hla] at hq1
          refine tc_skip ?_; refine q_then_n ?_; refine tc_seq ?_; refine tc_block ?_; refine sr ?_; refine tv (o_ixP (a := a) Try.underlying73 sz76 rfl rfl (by omega) (nn_rs (xs := kcl L vs) (by repeat (first | exact hr | apply Rs.left)) (fun _ => by rw [kcl_len hvs]; omega))) ?_; refine tv (o_ldPN (a := a) (xs := kcl L vs) (vs := [.int .i64 (((L.getD j (0, [])).1 : Nat) : Int), .slice xb (L.getD j (0, [])).2.length xc]) a76 sz76 rfl (by repeat (first | exact hr | apply Rs.left)) hkat rfl (by decide)) ?_; refine tl_x rfl (o_alloc z76 rfl) ?_; rintro _ _ ⟨b11, rfl, rfl⟩; refine tl_u rfl (o_stUN (l' := [.int .i64 (((L.getD j (0, [])).1 : Nat) : Int), .slice xb (L.getD j (0, [])).2.length xc]) rfl (by repeat (first | with_reducible exact upd_here | with_reducible exact upd_pt | apply upd_left)) sz76 rfl rfl rfl (by show 2 ≤ 2; decide) rfl) ?_; refine nq ?_; refine sr ?_; refine tv (o_fieldAddr (o := 0) Try.underlying76 rfl rfl sz3 rfl) ?_; refine tv (o_load p3 rfl (by repeat (first | with_reducible exact has_here | with_reducible exact has_pt | apply has_left)) rfl) ?_; refine tv (o_quoN (b := 64) rfl rfl (by omega)) ?_; refine tlm ?_; refine tv (o_addI rfl rfl (by omega)) ?_; refine tl_env (d := 47) (v := .int .i64 ((dn : Nat) : Int)) (by show Value.int .i64 _ = _; congr 1; omega) ?_
          refine tv (o_max2 Try.underlying3 rfl rfl) ?_; refine tla ?_; refine nq ?_; refine tc_block ?_; refine tc_loop (fun kk ρ BB => ∃ (q : Nat) (dq : Nat) (s3 : DevS), ((max ((L.getD j (0, [])).1 / 64) dn) ≤ q) ∧ (dq = if q = (max ((L.getD j (0, [])).1 / 64) dn) then dn else q) ∧ (q ≤ max (max ((L.getD j (0, [])).1 / 64) dn) ((((L.getD j (0, [])).1 + (L.getD j (0, [])).2.length - 1) / 64) + 1)) ∧ (flLs ((List.range ((((L.getD j (0, [])).1 + (L.getD j (0, [])).2.length - 1) / 64) + 1 - q)).map (fun i => q + i) ++ linR (L.drop (j + 1)) (max dn ((((L.getD j (0, [])).1 + (L.getD j (0, [])).2.length - 1) / 64) + 1))) s3 = flLs (linR L 0) s1) ∧ (s3.ls.length = s.ls.length) ∧ kk = (((L.getD j (0, [])).1 + (L.getD j (0, [])).2.length - 1) / 64) + 1 - q ∧ ρ 9 = .int .i64 ((dq : Int) - 1) ∧ ρ 12 = .int .i64 (q : Nat) ∧ ρ 5 = .pointer (some ⟨d, 0, none⟩) ∧ ρ 11 = .pointer (some ⟨b11, 0, none⟩) ∧ ρ 37 = .slice a i c ∧ ρ 38 = .int .i64 (i : Nat) ∧ ρ 39 = .int .i64 (j : Nat) ∧ Dr BB (R * Dev d s3 * pt b11 (cl [.int .i64 (((L.getD j (0, [])).1 : Nat) : Int), .slice xb (L.getD j (0, [])).2.length xc] 76))) (m := (((L.getD j (0, [])).1 + (L.getD j (0, [])).2.length - 1) / 64) + 1 - ((max ((L.getD j (0, [])).1 / 64) dn))) ?_ ?_
          · exact ⟨(max ((L.getD j (0, [])).1 / 64) dn), dn, s2, by omega, by rw [if_pos rfl], by omega, hq1, hq2, rfl, rfl, rfl, rfl, rfl, rfl, rfl, rfl, (by repeat (first | with_reducible exact dr_refl | apply dr_keep | apply dr_drop))⟩
          · intro k ρ B hI
            obtain ⟨q, dq, s3, ht0, ht1, ht2, ht3, ht4, hkk3, hE9, hE12, hE5, hE11, hE37, hE38, hE39, hBA⟩ := hI
            refine tc_pre hBA.sat ?_
            clear hBA
            refine tc_env (d := 9) hE9 ?_; refine tc_env (d := 12) hE12 ?_; refine tc_env (d := 5) hE5 ?_; refine tc_env (d := 11) hE11 ?_; refine tc_env (d := 37) hE37 ?_; refine tc_env (d := 38) hE38 ?_; refine tc_env (d := 39) hE39 ?_
            clear hE9 hE12 hE5 hE11 hE37 hE38 hE39
            refine tc_seq ?_; refine sr ?_; refine tlm ?_; refine tv (o_fieldAddr (o := 0) Try.underlying76 rfl rfl sz3 rfl) ?_; refine tv (o_load p3 rfl (by repeat (first | with_reducible exact has_here | with_reducible exact has_pt | apply has_left)) rfl) ?_; refine tv (o_fieldAddr (o := 1) Try.underlying76 rfl rfl sz22 rfl) ?_; refine tv (o_load p22 rfl (by repeat (first | with_reducible exact has_here | with_reducible exact has_pt | apply has_left)) rfl) ?_; refine tv (o_len Try.underlying22 rfl) ?_; refine tv (o_addI rfl rfl (by omega)) ?_; refine tv (o_subI rfl rfl (by omega)) ?_; refine tl_env (d := 56) (v := .int .i64 (((L.getD j (0, [])).1 + (L.getD j (0, [])).2.length - 1 : Nat) : Int)) (by show Value.int .i64 _ = _; congr 1; omega) ?_; refine tv (o_quoN (b := 64) rfl rfl (by omega)) ?_; refine tv (o_leq rfl rfl) ?_; refine nq ?_; refine tc_cond rfl (fun h => ?_) (fun h => ?_)
            · have hqh : q ≤ (((L.getD j (0, [])).1 + (L.getD j (0, [])).2.length - 1) / 64) := by have h9 := of_decide_eq_true h; omega
              refine tc_skip ?_; refine q_then_n ?_; refine tc_seq ?_; refine tc_block ?_; refine tc_seq ?_; refine sr ?_; refine tlm ?_; refine tlm ?_; refine tv (by first | exact o_mulI rfl rfl (by omega) | exact o_mul rfl rfl) ?_; refine tl_env (d := 63) (v := .int .i64 ((q * 64 : Nat) : Int)) (by first | (show Value.int .i64 _ = _; congr 1; done) | (show Value.int .i64 _ = _; congr 1; omega)) ?_; refine tl_c rfl (o_call bd56 rfl (Flush_c (s := s3) (p := ((q * 64 : Nat) : Int)))) ?_; rintro _ _ ⟨e64, s64, hs64, rfl, rfl⟩; refine tla ?_; refine nq ?_; refine sr ?_; refine tlm ?_; refine tv (o_nei rfl rfl) ?_; refine nq ?_; refine tc_cond rfl (fun h => ?_) (fun h => ?_)
              · have he0 : e64 ≠ 0 := by simpa using h
                refine sr ?_; refine tlm ?_; refine tla ?_; refine nq ?_; refine tc_ret ?_; refine q_then_r (q_block_r (q_then_r (q_then_r (q_block_r (q_block_r (q_then_r (q_then_r (q_block_r (q_then_r ?_))))))))); exact ⟨.int .i64 (e64), C (Dev d s64), res1 rfl rfl, fun _ _ h => by rw [hC]; exact (Dr.sat (A' := R * Dev d s64) (by repeat (first | with_reducible exact dr_refl | apply dr_keep | apply dr_drop))) _ _ h, e64, s64, writeT_o hst (by rw [← ht3, range_step (show q < (((L.getD j (0, [])).1 + (L.getD j (0, [])).2.length - 1) / 64) + 1 by omega), List.cons_append]; exact flLs_e hs64 he0), rfl, rfl⟩
              · obtain rfl : e64 = 0 := by simpa using h
                refine tc_skip ?_; refine q_then_n ?_; refine tc_reg ?_; refine tlm ?_; refine tla ?_; refine tl_nil ?_; refine q_block_n (q_then_n ?_); refine tc_reg ?_; refine tlm ?_; refine tv (by first | exact o_addI rfl rfl (by omega) | exact o_add rfl rfl) ?_; refine tla ?_; refine nq ?_; exact ⟨_, by omega, q + 1, q + 1, _, by omega, by rw [if_neg (by omega)], by omega, by rw [← ht3, range_step (show q < (((L.getD j (0, [])).1 + (L.getD j (0, [])).2.length - 1) / 64) + 1 by omega), List.cons_append]; exact (flLs_o hs64).symm, by have h9 := fl1_len ((q * 64 : Nat) : Int) s3; rw [hs64] at h9; exact h9.trans ht4, rfl, by show Value.int .i64 _ = _; congr 1; omega, rfl, rfl, rfl, rfl, rfl, rfl, (by repeat (first | with_reducible exact dr_refl | apply dr_keep | apply dr_drop))⟩
            · have hqh : ¬ q ≤ (((L.getD j (0, [])).1 + (L.getD j (0, [])).2.length - 1) / 64) := by have h9 := of_decide_eq_false h; omega
              have hdq : dq = max dn ((((L.getD j (0, [])).1 + (L.getD j (0, [])).2.length - 1) / 64) + 1) := by rw [ht1]; split <;> omega
              rw [show (((L.getD j (0, [])).1 + (L.getD j (0, [])).2.length - 1) / 64) + 1 - q = 0 by omega, List.range_zero, List.map_nil, List.nil_append] at ht3
              refine tc_exit ?_; refine q_then_e (q_then_e (q_block_x (q_block_n (q_then_n ?_)))); refine tc_reg ?_; refine tv (by first | exact o_addI rfl rfl (by omega) | exact o_add rfl rfl) ?_; refine tlm ?_; refine nq ?_; exact ⟨_, by omega, j + 1, dq, s3, by omega, by rw [hdq]; exact ht3, ht4, by omega, rfl, rfl, rfl, rfl, rfl, rfl, (by repeat (first | with_reducible exact dr_refl | apply dr_keep | apply dr_drop))⟩
        · obtain rfl : j = i := by simp at h; omega
          rw [List.drop_eq_nil_of_le (show L.length ≤ j by omega)] at hq1
          refine tc_exit ?_; refine q_then_e (q_then_e (q_block_x (q_then_n ?_))); refine sr ?_; refine tla ?_; refine nq ?_; refine tc_ret ?_; exact ⟨.int .i64 (0), C (Dev d s2), res1 rfl rfl, fun _ _ h => by rw [hC]; exact (Dr.sat (A' := R * Dev d s2) (by repeat (first | with_reducible exact dr_refl | apply dr_keep | apply dr_drop))) _ _ h, 0, s2, writeT_o hst (by rw [← hq1]; unfold linR flLs; rfl), rfl, rfl⟩
end Go.Vl

namespace Go.Vl
open Go Go.Proofs
/-- What runs of so many addresses are. -/
structure RunP (n k : Nat) (out : List (Nat × List Nat)) : Prop where
  sum : sumL out = k
  len : out.length ≤ k
  ok : RunW n out
theorem sumL_app (a b : List (Nat × List Nat)) : sumL (a ++ b) = sumL a + sumL b := by unfold sumL; rw [List.map_append, List.sum_append]
theorem runP_step {n k a : Nat} {f : TF} {out : List (Nat × List Nat)} (h : RunP n k out) (ha : a < n) (hb : byF f a < 256) : RunP n (k + 1) (runA f out a) := by
  have h1 : ∀ x : Nat, sumL [(x, [byF f a])] = 1 := fun x => rfl
  cases hj : adjB out a with
  | true =>
    obtain ⟨O, r, rfl, hadj, hrun⟩ := adj_t (f := f) hj
    rw [hrun]
    have hs := h.sum
    have hl := h.len
    rw [sumL_app] at hs
    rw [List.length_append, List.length_singleton] at hl
    obtain ⟨g1, g2, g3⟩ := h.ok r (by simp)
    have e1 : ∀ y : List Nat, sumL [(r.1, y)] = y.length := fun y => by unfold sumL; simp
    have e2 : sumL [r] = r.2.length := by unfold sumL; simp
    refine ⟨by rw [sumL_app, e1, List.length_append, List.length_singleton]; rw [e2] at hs; omega, by rw [List.length_append, List.length_singleton]; omega, fun x hx => ?_⟩
    rcases List.mem_append.1 hx with h9 | h9
    · exact h.ok x (List.mem_append_left _ h9)
    · rw [List.mem_singleton] at h9
      subst h9
      refine ⟨by simp, by show r.1 + (r.2 ++ [byF f a]).length ≤ n; rw [List.length_append, List.length_singleton]; omega, fun b hb' => ?_⟩
      rcases List.mem_append.1 hb' with h8 | h8
      · exact g3 b h8
      · rw [List.mem_singleton.1 h8]; exact hb
  | false =>
    rw [adj_f hj]
    refine ⟨by rw [sumL_app, h1, h.sum], by rw [List.length_append, List.length_singleton]; have := h.len; omega, fun x hx => ?_⟩
    rcases List.mem_append.1 hx with h9 | h9
    · exact h.ok x h9
    · rw [List.mem_singleton] at h9
      subst h9
      exact ⟨Nat.le_refl _, by show a + 1 ≤ n; omega, fun b hb' => by rw [List.mem_singleton.1 hb']; exact hb⟩
theorem runP_all {M : MS} {n : Nat} {k : Bool} {f : TF} (hM : MF M n f) : ∀ i, i ≤ (adrF n k f).length → RunP n i (runsL f ((adrF n k f).take i))
  | 0, _ => ⟨rfl, Nat.le_refl _, fun r h => (by cases h)⟩
  | i + 1, h => by
    rw [runs_next (out := runsL f ((adrF n k f).take i)) rfl (by omega)]
    obtain ⟨c, hf, _, hn⟩ := adr_at (n := n) (k := k) (f := f) (i := i) (by omega)
    exact runP_step (runP_all hM i (by omega)) hn (by rw [byF_some hf]; exact hM.by_ _ _ hf)
theorem runP_F {M : MS} {n : Nat} {k : Bool} {f : TF} (hM : MF M n f) : RunP n (adrF n k f).length (runsF n k f) := by
  have := runP_all (k := k) hM (adrF n k f).length (Nat.le_refl _)
  rw [List.take_length] at this; exact this
theorem extX_xw {n : Nat} {L : List (Nat × List Nat)} (h : RunW n L) (hn : n ≤ 4194304) : ∀ x ∈ extX L, XW x := fun x hx => by
  obtain ⟨r, hr, rfl⟩ := List.mem_map.1 hx
  obtain ⟨_, h2, _⟩ := h r hr
  exact ⟨by show -9223372036854775808 ≤ (r.1 : Int) ∧ (r.1 : Int) ≤ 9223372036854775807; omega, by show -9223372036854775808 ≤ (r.2.length : Int) ∧ (r.2.length : Int) ≤ 9223372036854775807; omega⟩
theorem gd_stoL {n k m : Nat} : ∀ {L : List (Nat × List Nat)} {s : DevS}, RunW m L → Gd n (k + sumL L) s → Gd n k (stoL L s).2
  | [], s, _, h => h.le (by omega)
  | r :: l, s, hW, h => by
    rw [sumL_cons] at h
    obtain ⟨_, _, hb⟩ := hW r (by simp)
    have h1 : Gd n (k + sumL l) (sto (r.1 : Nat) r.2 s).2 := gd_sto (h.le (by omega)) hb
    rw [stoL_cons]
    split
    · exact h1.le (by omega)
    · exact gd_stoL (fun x hx => hW x (List.mem_cons_of_mem _ hx)) h1
theorem gd_fl1 {n k : Nat} {p : Int} {s : DevS} (h : Gd n k s) : Gd n k (fl1 p s).2 := ⟨(fl1_len _ _).trans h.len, fl1_room (e := (fl1 p s).1) rfl h.wf h.room, fl1_wf h.wf⟩
theorem gd_flLs {n k : Nat} : ∀ {l : List Nat} {s : DevS}, Gd n k s → Gd n k (flLs l s).2
  | [], s, h => h
  | q :: l, s, h => by
    rw [flLs_cons]
    split
    · exact gd_fl1 h
    · exact gd_flLs (gd_fl1 h)
theorem gd_writeT {n k m : Nat} {L : List (Nat × List Nat)} {s s2 : DevS} {e : Int} (hw : writeT L s = (e, s2)) (hW : RunW m L) (h : Gd n (k + sumL L) s) : Gd n k s2 := by
  have h1 := gd_stoL hW h
  have h2 : (writeT L s).2 = s2 := by rw [hw]
  rw [← h2]
  unfold writeT
  split
  · exact h1
  · exact gd_flLs h1
section
variable {at_ sz n : Nat} {f : TF} {s s1 s2 s3 s4 s5 : DevS} {e : Int}
theorem com_w1 (h1 : writeT (runsF n true f) s = (e, s1)) (he : e ≠ 0) : comS at_ sz n f s = ((e, true), s1) := by unfold comS; rw [h1, if_pos he]
theorem com_00 (h1 : writeT (runsF n true f) s = (0, s1)) (hl : runsF n false f = []) (hf : runsF n true f = []) : comS at_ sz n f s = ((0, true), s1) := by
  unfold comS; rw [h1, if_neg (by simp), if_pos hl, if_pos hf]
theorem com_0f (h1 : writeT (runsF n true f) s = (0, s1)) (hl : runsF n false f = []) (hf : runsF n true f ≠ []) (h2 : fe s1 = (e, s2)) : comS at_ sz n f s = ((e, true), s2) := by
  unfold comS; rw [h1, if_neg (by simp), if_pos hl, if_neg hf]; simp only []; rw [h2]
theorem com_lw (h1 : writeT (runsF n true f) s = (0, s1)) (hl : runsF n false f ≠ []) (h2 : writeS at_ sz (extX (runsF n false f)) s1 = (e, s2)) (he : e ≠ 0) : comS at_ sz n f s = ((e, decide (e = 5)), s2) := by
  unfold comS; rw [h1, if_neg (by simp), if_neg hl]; simp only []; rw [h2, if_pos he]
theorem com_w2 (h1 : writeT (runsF n true f) s = (0, s1)) (hl : runsF n false f ≠ []) (h2 : writeS at_ sz (extX (runsF n false f)) s1 = (0, s2)) (h3 : writeT (runsF n false f) s2 = (e, s3)) (he : e ≠ 0) : comS at_ sz n f s = ((e, true), s3) := by
  unfold comS; rw [h1, if_neg (by simp), if_neg hl]; simp only []; rw [h2, if_neg (by simp)]; simp only []; rw [h3, if_pos he]
theorem com_fe (h1 : writeT (runsF n true f) s = (0, s1)) (hl : runsF n false f ≠ []) (h2 : writeS at_ sz (extX (runsF n false f)) s1 = (0, s2)) (h3 : writeT (runsF n false f) s2 = (0, s3)) (h4 : fe s3 = (e, s4)) (he : e ≠ 0) : comS at_ sz n f s = ((e, true), s4) := by
  unfold comS; rw [h1, if_neg (by simp), if_neg hl]; simp only []; rw [h2, if_neg (by simp)]; simp only []; rw [h3, if_neg (by simp)]; simp only []; rw [h4, if_pos he]
theorem com_cl (h1 : writeT (runsF n true f) s = (0, s1)) (hl : runsF n false f ≠ []) (h2 : writeS at_ sz (extX (runsF n false f)) s1 = (0, s2)) (h3 : writeT (runsF n false f) s2 = (0, s3)) (h4 : fe s3 = (0, s4)) (h5 : clearS at_ s4 = (e, s5)) : comS at_ sz n f s = ((e, true), s5) := by
  unfold comS; rw [h1, if_neg (by simp), if_neg hl]; simp only []; rw [h2, if_neg (by simp)]; simp only []; rw [h3, if_neg (by simp)]; simp only []; rw [h4, if_neg (by simp)]; simp only []; rw [h5]
end
/-! ### A map that is emptied -/
theorem del_c (M : MS) (a : Int) : (M.del a).c = M.c := by unfold MS.del; split <;> rfl
theorem del_sub (M : MS) (a : Int) : (M.del a).D.Sublist M.D := by
  unfold MS.del
  split
  · exact List.eraseIdx_sublist _ _
  · exact List.Sublist.refl _
theorem wfM_del {M : MS} (h : WfM M) (a : Int) : WfM (M.del a) := ⟨h.keys.sublist ((del_sub M a).map _), h.born.sublist ((del_sub M a).map _), fun e he => by rw [del_c]; exact h.past e ((del_sub M a).subset he)⟩
theorem del_mem {M : MS} {e : ME} (h : WfM M) (he : e ∈ M.D) : (M.del e.k).D.length < M.D.length ∧ ∀ x ∈ (M.del e.k).D, x.b ≠ e.b := by
  obtain ⟨i, hi⟩ := mfind_mem h.keys he
  obtain ⟨hil, hk, _⟩ := mfind_some hi
  have hD : (M.del e.k).D = M.D.eraseIdx i := by unfold MS.del; rw [hi]
  rw [hD]
  refine ⟨by rw [List.length_eraseIdx_of_lt hil]; omega, fun x hx hxb => ?_⟩
  have hei : M.D[i] = e := by
    obtain ⟨j, hj, hje⟩ := List.mem_iff_getElem.1 he
    have hkk : (M.D.map ME.k)[i]? = (M.D.map ME.k)[j]? := by
      rw [List.getElem?_map, List.getElem?_map, List.getElem?_eq_getElem hil, List.getElem?_eq_getElem hj]
      simp only [Option.map_some]; rw [hk, hje]
    have hij := (List.getElem?_inj (by simpa using hil) h.keys).1 hkk
    subst hij; exact hje
  rw [List.mem_eraseIdx_iff_getElem] at hx
  obtain ⟨j, hj, hji, hjx⟩ := hx
  have hbb : (M.D.map ME.b)[i]? = (M.D.map ME.b)[j]? := by
    rw [List.getElem?_map, List.getElem?_map, List.getElem?_eq_getElem hil, List.getElem?_eq_getElem hj]
    simp only [Option.map_some]; rw [hei, hjx, hxb]
  exact hji ((List.getElem?_inj (by simpa using hil) h.born).1 hbb).symm
end Go.Vl

namespace Go.Vl
open Go Go.Proofs
attribute [local irreducible] crk crL crc Sl pt ro Dev imgS recS readS recsF rdW rdO rkT Parts rvl recordsS runsL adrF kcl xcl kys runA runsF layF linR flLs stoL writeT writeS comS clearS extX
set_option maxRecDepth 20000 in
set_option maxHeartbeats 2000000 in
theorem Commit12_c {A R : SP} {C : SP → SP} {t p lg d mb at_ sz : Nat} {M : MS} {s : DevS} (hc : Ct A (TxA t p lg d mb at_ sz M false s) R C := by repeat (first | with_reducible exact ct_here | apply ct_left)) {n : Nat} {f : TF} (hM : MF M n f) (hn : n = s.ls.length * 64 := by omega) (hlw : LogW (s.ls.length * 64) at_ sz := by assumption) (ho : s.off = false := by assumption) (hroom : Room (2 * n + sz + 8) s := by assumption) :
    Fn Try.prog 25 #[.pointer (some ⟨t, 0, none⟩)] (A) (fun r B => ∃ e b s2 M2, comS at_ sz n f s = ((e, b), s2) ∧ r = .int .i64 e ∧ MF M2 n (if b = true then tf0 else f) ∧ B = C (TxA t p lg d mb at_ sz M2 b s2)) := by
  refine fn_enterW (args := [.pointer (some ⟨t, 0, none⟩)]) Try.func25 rfl Try.ntmps25 (by simp) ?_
  obtain ⟨rfl, hC⟩ := hc
  refine tc_eq (show _ = R * pt p (cl (pocs lg d (some t)) 66) * pt lg (cl (lcs11 d at_ sz) 109) * Dev d s * pt t (cl (txcs p mb false) 69) * pt mb (mpo .i64 M) by unfold TxA; rw [if_neg (by decide)]; ac_rfl) ?_; refine tc_have (fun _ _ h => ct_wf2 (by repeat (first | with_reducible exact ct_here | apply ct_left)) h) fun hwf => ?_
  have htop := hwf.top
  obtain ⟨LF, hLF⟩ : ∃ L, runsF n true f = L := ⟨_, rfl⟩
  obtain ⟨LL, hLL⟩ : ∃ L, runsF n false f = L := ⟨_, rfl⟩
  have hPF := runP_F (k := true) hM
  have hPL := runP_F (k := false) hM
  rw [hLF] at hPF
  rw [hLL] at hPL
  have haf := adr_len n true f
  have hal := adr_len n false f
  have hg0 : Gd s.ls.length (2 * n + sz + 8) s := ⟨rfl, hroom, hwf⟩
  have hfs := hPF.sum
  have hfl := hPF.len
  have hls := hPL.sum
  have hll := hPL.len
  obtain ⟨w1, w2, w3, w4, w5⟩ := id hlw
  refine sr ?_; refine tla ?_; refine nq ?_; refine tc_scope (l := 0) (fun ρ BB => ∃ (e_ : Int) (sE : DevS), (comS at_ sz n f s = ((e_, true), sE)) ∧ ρ 3 = .int .i64 e_ ∧ ρ 0 = .pointer (some ⟨t, 0, none⟩) ∧ Dr BB (R * pt p (cl (pocs lg d (some t)) 66) * pt lg (cl (lcs11 d at_ sz) 109) * Dev d sE * pt t (cl (txcs p mb false) 69) * pt mb (mpo .i64 M))) rfl ?_ ?_
  · intro ρ B hI
    obtain ⟨e_, sE, hcm0, hE3, hE0, hBA⟩ := hI
    refine tc_pre hBA.sat ?_
    clear hBA
    refine tc_env (d := 3) hE3 ?_; refine tc_env (d := 0) hE0 ?_
    clear hE3 hE0
    refine tc_seq ?_; refine sr ?_; refine tlm ?_; refine tv (o_nilCheck rfl) ?_; refine tv (o_fieldAddr (o := 1) Try.underlying69 rfl rfl sz67 rfl) ?_; refine tv (o_load p67 rfl (by repeat (first | with_reducible exact has_here | with_reducible exact has_pt | apply has_left)) rfl) ?_; refine tl_x rfl (o_range (ik := .i64) (M := M) Try.underlying67 rfl (by repeat (first | with_reducible exact has_here | with_reducible exact has_pt | apply has_left))) ?_; rintro _ _ ⟨r75, rfl, rfl⟩; refine nq ?_; refine tc_block ?_; refine tc_loop (fun kk ρ BB => ∃ (M1 : MS) (seen : List Nat), (WfM M1) ∧ (∀ x ∈ M1.D, x.b ∉ seen) ∧ kk = M1.D.length ∧ ρ 0 = .pointer (some ⟨t, 0, none⟩) ∧ ρ 3 = .int .i64 e_ ∧ ρ 75 = .pointer (some ⟨r75, 0, none⟩) ∧ Dr BB (R * pt p (cl (pocs lg d (some t)) 66) * pt lg (cl (lcs11 d at_ sz) 109) * Dev d sE * pt t (cl (txcs p mb false) 69) * pt mb (mpo .i64 M1) * pt r75 (mit mb M1.c seen M1.c))) (m := (M).D.length) ?_ ?_
    · exact ⟨M, [], hM.wf, fun x _ h => (by cases h), rfl, rfl, rfl, rfl, (by repeat (first | with_reducible exact dr_refl | apply dr_keep | apply dr_drop))⟩
    · intro k ρ B hI
      obtain ⟨M1, seen, hp0, hp1, hkk1, hE0, hE3, hE75, hBA⟩ := hI
      refine tc_pre hBA.sat ?_
      clear hBA
      refine tc_env (d := 0) hE0 ?_; refine tc_env (d := 3) hE3 ?_; refine tc_env (d := 75) hE75 ?_
      clear hE0 hE3 hE75
      refine sr ?_; refine tl_x rfl (o_next (ik := .i64) (M := M1) (b := mb) (seen := seen) hp0 rfl (by repeat (first | with_reducible exact ct_here | apply ct_left)) (by repeat (first | with_reducible exact has_here | with_reducible exact has_pt | apply has_left))) ?_; rintro _ _ ⟨o76, hnx, rfl, rfl⟩; refine tv (o_exNx rfl) ?_; refine nq ?_; refine tc_seq ?_; refine tc_cond rfl (fun h => ?_) (fun h => ?_)
      · obtain ⟨e, rfl⟩ : ∃ e, o76 = some e := Option.isSome_iff_exists.1 (by simpa using h)
        have hem := (hnx.yes e rfl).1
        refine tc_eq (show _ = R * pt p (cl (pocs lg d (some t)) 66) * pt lg (cl (lcs11 d at_ sz) 109) * Dev d sE * pt t (cl (txcs p mb false) 69) * pt mb (mpo .i64 M1) * pt r75 (mit mb M1.c (seen ++ [e.b]) M1.c) from rfl) ?_; refine tc_skip ?_; refine q_then_n ?_; refine tc_block ?_; refine sr ?_; refine tv (o_entry (ik := .i64) (M := M1) (b := mb) (seen := seen) hp0 hem rfl (by repeat (first | with_reducible exact has_here | with_reducible exact has_pt | apply has_left)) (by repeat (first | with_reducible exact has_here | with_reducible exact has_pt | apply has_left))) ?_; refine tv (o_extract rfl rfl) ?_; refine tla ?_; refine nq ?_; refine tc_reg ?_; refine tlm ?_; refine tv (o_nilCheck rfl) ?_; refine tv (o_fieldAddr (o := 1) Try.underlying69 rfl rfl sz67 rfl) ?_; refine tv (o_load p67 rfl (by repeat (first | with_reducible exact has_here | with_reducible exact has_pt | apply has_left)) rfl) ?_; refine tlm ?_; refine tl_x rfl (o_delete (ik := .i64) (M := M1) Try.underlying67 Try.underlying3 rfl rfl (by repeat (first | with_reducible exact upd_here | with_reducible exact upd_pt | apply upd_left)) rfl) ?_; rintro _ _ ⟨rfl, rfl⟩; refine tl_nil ?_; refine q_block_n (q_then_n ?_); exact ⟨_, (by have := (del_mem hp0 hem).1; omega), M1.del e.k, seen ++ [e.b], wfM_del hp0 _, fun x hx h => (by rcases List.mem_append.1 h with h9 | h9; exact hp1 x ((del_sub _ _).subset hx) h9; exact (del_mem hp0 hem).2 x hx (List.mem_singleton.1 h9)), rfl, rfl, rfl, rfl, by rw [del_c]; repeat (first | with_reducible exact dr_refl | apply dr_keep | apply dr_drop)⟩
      · obtain rfl : o76 = none := by cases o76 <;> simp at h ⊢
        refine tc_exit ?_; refine q_then_e (q_then_e (q_block_x (q_then_n ?_))); refine sr ?_; refine tlm ?_; refine tl_c rfl (o_call bd33 rfl (end12_c (R := R * pt lg (cl (lcs11 d at_ sz) 109) * Dev d sE * pt r75 (mit mb M1.c seen M1.c)) (p := p) (lg := lg) (d := d) (mb := mb) (M := M1) (over := false) (hA := by first | rfl | ac_rfl))) ?_; rintro _ _ ⟨rfl, rfl⟩; refine nq ?_; refine sr ?_; refine tlm ?_; refine tla ?_; refine nq ?_; refine tc_ret ?_; refine q_sc_r ?_; exact ⟨.int .i64 e_, C (TxA t p lg d mb at_ sz M1.clr true sE), res1 rfl rfl, (fun g w h => by rw [hC]; exact (Dr.sat (A' := R * pt lg (cl (lcs11 d at_ sz) 109) * Dev d sE * pt p (cl (pocs lg d none) 66) * pt t (cl (txcs p mb true) 69) * pt mb (mpo .i64 M1.clr)) (by repeat (first | with_reducible exact dr_refl | apply dr_keep | apply dr_drop)) g w h).perm (by unfold TxA; rw [if_pos rfl]; ac_rfl)), e_, true, sE, M1.clr, hcm0, rfl, by rw [if_pos rfl]; exact mf_nil _ _, rfl⟩
  · intro hsc
    refine sr ?_; refine tlm ?_; refine tl_c rfl (o_call bd27 rfl (begun12_c (s := s))) ?_; rintro _ _ ⟨rfl, rfl⟩; refine tla ?_; refine nq ?_; refine tc_seq ?_; refine sr ?_; refine tlm ?_; refine tv (o_nei rfl rfl) ?_; refine nq ?_; refine tc_cond rfl (fun h => ?_) (fun h => ?_)
    · exfalso; simp at h
    · try simp only [lv1, lv2, lv3, lv4, lv5, lv6, Bool.not_true, Bool.not_false] at h
      refine tc_skip ?_; refine q_then_n ?_; refine sr ?_; refine tlm ?_; refine tv (o_nilCheck rfl) ?_; refine tv (o_fieldAddr (o := 0) Try.underlying69 rfl rfl sz27 rfl) ?_; refine tv (o_load p27 rfl (by repeat (first | with_reducible exact has_here | with_reducible exact has_pt | apply has_left)) rfl) ?_; refine tv (o_nilCheck rfl) ?_; refine tv (o_fieldAddr (o := 0) Try.underlying66 rfl rfl sz26 rfl) ?_; refine tv (o_load p26 rfl (by repeat (first | with_reducible exact has_here | with_reducible exact has_pt | apply has_left)) rfl) ?_; refine tla ?_; refine nq ?_; refine sr ?_; refine tlm ?_; refine tl_c rfl (o_call bd30 rfl (runs12_w (kd := true) (M := M) (over := false) (p := p) (by repeat (first | with_reducible exact has_here | with_reducible exact has_pt | apply has_left)) (by repeat (first | with_reducible exact has_here | with_reducible exact has_pt | apply has_left)) hM (by omega) hLF)) ?_; rintro _ _ ⟨a22, c22, vf, rfl, hc22, hvf, rfl⟩; refine tl_have (fun _ _ h => parts_getD hvf h.left) fun hpf => ?_; refine tlm ?_; refine tl_c rfl (o_call bd30 rfl (runs12_w (kd := false) (M := M) (over := false) (p := p) (by repeat (first | with_reducible exact has_here | with_reducible exact has_pt | apply has_left)) (by repeat (first | with_reducible exact has_here | with_reducible exact has_pt | apply has_left)) hM (by omega) hLL)) ?_
      rintro _ _ ⟨a24, c24, vl, rfl, hc24, hvl, rfl⟩; refine tl_have (fun _ _ h => parts_getD hvl h.left) fun hpl => ?_; refine tlm ?_; refine tl_c rfl (o_call bd11 rfl (Extents12_c (M := M) (p := p) (L := LL) (ht := (by repeat (first | with_reducible exact has_here | with_reducible exact has_pt | apply has_left))) (hmb := (by repeat (first | with_reducible exact has_here | with_reducible exact has_pt | apply has_left))) (hM := hM) (hX := hLL) (hLl := by omega))) ?_; rintro _ _ ⟨a26, c26, rfl, hc26, rfl⟩; refine tla ?_; refine tla ?_; refine tla ?_; refine nq ?_; refine tc_seq ?_; refine sr ?_; refine tlm ?_; refine tlm ?_; refine tl_c rfl (o_call bd43 rfl (write12_c (s := s) (n := n) (L := LF) (vs := vf) (a := a22) (hr := (by repeat (first | with_reducible exact rs_sl | apply Rs.left))) (hvs := hvf) (hps := by repeat (first | exact psr_of hvf hpf (fun x hx => by have h9 := (hPF.ok x hx).2.1; omega) | apply PsR.left)) (hcp := hpf) (hW := hPF.ok) (hn := by have h9 := hg0.len; omega) (hm := rfl) (hml := by have h9 := hPF.len; omega) (hroom := (hg0.le (by omega)).room))) ?_; rintro _ _ ⟨e29, s29, hs29, rfl, rfl⟩
      have hg1 : Gd s.ls.length (n + sz + 8) s29 := gd_writeT hs29 hPF.ok (hg0.le (by omega))
      have hg1l := hg1.len
      refine tla ?_; refine nq ?_; refine sr ?_; refine tlm ?_; refine tv (o_nei rfl rfl) ?_; refine nq ?_; refine tc_cond rfl (fun h => ?_) (fun h => ?_)
      · have he29 : e29 ≠ 0 := by simpa using h
        have hcm9 : comS at_ sz n f s = ((e29, true), s29) := com_w1 (by rw [hLF]; exact hs29) he29
        refine tc_goto ?_; refine q_then_g (q_sc_g ?_); exact ⟨_, _, hcm9, rfl, rfl, (by repeat (first | with_reducible exact dr_refl | apply dr_keep | apply dr_drop))⟩
      · obtain rfl : e29 = 0 := by simpa using h
        refine tc_skip ?_; refine q_then_n ?_; refine tc_seq ?_; refine sr ?_; refine tlm ?_; refine tv (o_len Try.underlying73 rfl) ?_; refine tv (o_eqi rfl rfl) ?_; refine nq ?_; refine tc_cond rfl (fun h => ?_) (fun h => ?_)
        · have hll0 : LL = [] := List.eq_nil_of_length_eq_zero (by first | (have h9 := of_decide_eq_true h; omega) | (simp at h; omega))
          refine tc_seq ?_; refine sr ?_; refine tlm ?_; refine tv (o_len Try.underlying73 rfl) ?_; refine tv (o_gtr rfl rfl) ?_; refine nq ?_; refine tc_cond rfl (fun h => ?_) (fun h => ?_)
          · have hlf0 : LF ≠ [] := fun e => by subst e; simp at h
            refine tc_reg ?_; refine tlm ?_; refine tl_c rfl (o_call bd44 rfl (Fence_c (s := s29))) ?_; rintro _ _ ⟨e39, s39, hs39, rfl, rfl⟩
            have hcm9 : comS at_ sz n f s = ((e39, true), s39) := com_0f (by rw [hLF]; exact hs29) (by rw [hLL]; exact hll0) (by rw [hLF]; exact hlf0) hs39
            refine tla ?_; refine nq ?_; refine tc_goto ?_; refine q_then_g (q_sc_g ?_); exact ⟨_, _, hcm9, rfl, rfl, (by repeat (first | with_reducible exact dr_refl | apply dr_keep | apply dr_drop))⟩
          · have hlf0 : LF = [] := List.eq_nil_of_length_eq_zero (by first | (have h9 := of_decide_eq_false h; omega) | (simp at h; omega))
            have hcm9 : comS at_ sz n f s = ((0, true), s29) := com_00 (by rw [hLF]; exact hs29) (by rw [hLL]; exact hll0) (by rw [hLF]; exact hlf0)
            refine tc_skip ?_; refine q_then_n ?_; refine tc_goto ?_; refine q_then_g (q_sc_g ?_); exact ⟨_, _, hcm9, rfl, rfl, (by repeat (first | with_reducible exact dr_refl | apply dr_keep | apply dr_drop))⟩
        · have hll0 : LL ≠ [] := fun e => by subst e; simp at h
          refine tc_skip ?_; refine q_then_n ?_; refine tc_seq ?_; refine sr ?_; refine tlm ?_; refine tv (o_nilCheck rfl) ?_; refine tv (o_fieldAddr (o := 0) Try.underlying69 rfl rfl sz27 rfl) ?_; refine tv (o_load p27 rfl (by repeat (first | with_reducible exact has_here | with_reducible exact has_pt | apply has_left)) rfl) ?_; refine tv (o_nilCheck rfl) ?_; refine tv (o_fieldAddr (o := 1) Try.underlying66 rfl rfl sz64 rfl) ?_; refine tv (o_load p64 rfl (by repeat (first | with_reducible exact has_here | with_reducible exact has_pt | apply has_left)) rfl) ?_; refine tlm ?_; refine tl_c rfl (o_call bd45 rfl (Write_c (s := s29) (xs := extX LL) (hr := (by repeat (first | with_reducible exact rs_sl | apply Rs.left))) (hm := ext_len LL) (hX := extX_xw hPL.ok (by omega)) (hlw := by rw [hg1l]; exact hlw) (hml := by omega) (hroom := (hg1.le (by omega)).room))) ?_; rintro _ _ ⟨e48, s48, hs48, rfl, rfl⟩
          have hg2 : Gd s.ls.length (n + 4) s48 := by have h9 := gd_write (at_ := at_) (sz := sz) (k := n + 4) (l := extX LL) (hg1.le (by omega)) (by rw [ext_len]; omega); rw [hs48] at h9; exact h9
          have hg2l := hg2.len
          refine tla ?_; refine nq ?_; refine sr ?_; refine tlm ?_; refine tv (o_nei rfl rfl) ?_; refine nq ?_; refine tc_cond rfl (fun h => ?_) (fun h => ?_)
          · have he48 : e48 ≠ 0 := by simpa using h
            refine tc_seq ?_; refine sr ?_; refine tlm ?_; refine tv (o_nei rfl rfl) ?_; refine nq ?_; refine tc_cond rfl (fun h => ?_) (fun h => ?_)
            · have he5 : e48 ≠ 5 := by simpa using h
              refine sr ?_; refine tlm ?_; refine tla ?_; refine nq ?_; refine tc_ret ?_; refine q_then_r (q_then_r (q_sc_r ?_)); exact ⟨.int .i64 e48, C (TxA t p lg d mb at_ sz M false s48), res1 rfl rfl, (fun g w h => by rw [hC]; exact (Dr.sat (A' := R * pt p (cl (pocs lg d (some t)) 66) * pt lg (cl (lcs11 d at_ sz) 109) * Dev d s48 * pt t (cl (txcs p mb false) 69) * pt mb (mpo .i64 M)) (by repeat (first | with_reducible exact dr_refl | apply dr_keep | apply dr_drop)) g w h).perm (by unfold TxA; rw [if_neg (by decide)]; ac_rfl)), e48, false, s48, M, by rw [com_lw (by rw [hLF]; exact hs29) (by rw [hLL]; exact hll0) (by rw [hLL]; exact hs48) he48, decide_eq_false he5], rfl, hM, rfl⟩
            · obtain rfl : e48 = 5 := by simpa using h
              have hcm9 : comS at_ sz n f s = ((5, true), s48) := com_lw (by rw [hLF]; exact hs29) (by rw [hLL]; exact hll0) (by rw [hLL]; exact hs48) (by decide)
              refine tc_skip ?_; refine q_then_n ?_; refine tc_goto ?_; refine q_then_g (q_sc_g ?_); exact ⟨_, _, hcm9, rfl, rfl, (by repeat (first | with_reducible exact dr_refl | apply dr_keep | apply dr_drop))⟩
          · obtain rfl : e48 = 0 := by simpa using h
            refine tc_skip ?_; refine q_then_n ?_; refine tc_seq ?_; refine sr ?_; refine tlm ?_; refine tlm ?_; refine tl_c rfl (o_call bd43 rfl (write12_c (s := s48) (n := n) (L := LL) (vs := vl) (a := a24) (hr := (by repeat (first | with_reducible exact rs_sl | apply Rs.left))) (hvs := hvl) (hps := by repeat (first | exact psr_of hvl hpl (fun x hx => by have h9 := (hPL.ok x hx).2.1; omega) | apply PsR.left)) (hcp := hpl) (hW := hPL.ok) (hn := by have h9 := hg2.len; omega) (hm := rfl) (hml := by have h9 := hPL.len; omega) (hroom := (hg2.le (by omega)).room))) ?_; rintro _ _ ⟨e56, s56, hs56, rfl, rfl⟩
            have hg3 : Gd s.ls.length 4 s56 := gd_writeT hs56 hPL.ok (hg2.le (by omega))
            have hg3l := hg3.len
            refine tla ?_; refine nq ?_; refine sr ?_; refine tlm ?_; refine tv (o_nei rfl rfl) ?_; refine nq ?_; refine tc_cond rfl (fun h => ?_) (fun h => ?_)
            · have he56 : e56 ≠ 0 := by simpa using h
              have hcm9 : comS at_ sz n f s = ((e56, true), s56) := com_w2 (by rw [hLF]; exact hs29) (by rw [hLL]; exact hll0) (by rw [hLL]; exact hs48) (by rw [hLL]; exact hs56) he56
              refine tc_goto ?_; refine q_then_g (q_sc_g ?_); exact ⟨_, _, hcm9, rfl, rfl, (by repeat (first | with_reducible exact dr_refl | apply dr_keep | apply dr_drop))⟩
            · obtain rfl : e56 = 0 := by simpa using h
              refine tc_skip ?_; refine q_then_n ?_; refine tc_seq ?_; refine sr ?_; refine tlm ?_; refine tl_c rfl (o_call bd44 rfl (Fence_c (s := s56))) ?_; rintro _ _ ⟨e60, s60, hs60, rfl, rfl⟩
              have hg4 : Gd s.ls.length 4 s60 := by have h9 := gd_fe hg3; rw [hs60] at h9; exact h9
              have hg4l := hg4.len
              refine tla ?_; refine nq ?_; refine sr ?_; refine tlm ?_; refine tv (o_nei rfl rfl) ?_; refine nq ?_; refine tc_cond rfl (fun h => ?_) (fun h => ?_)
              · have he60 : e60 ≠ 0 := by simpa using h
                have hcm9 : comS at_ sz n f s = ((e60, true), s60) := com_fe (by rw [hLF]; exact hs29) (by rw [hLL]; exact hll0) (by rw [hLL]; exact hs48) (by rw [hLL]; exact hs56) hs60 he60
                refine tc_goto ?_; refine q_then_g (q_sc_g ?_); exact ⟨_, _, hcm9, rfl, rfl, (by repeat (first | with_reducible exact dr_refl | apply dr_keep | apply dr_drop))⟩
              · obtain rfl : e60 = 0 := by simpa using h
                refine tc_skip ?_; refine q_then_n ?_; refine sr ?_; refine tlm ?_; refine tv (o_nilCheck rfl) ?_; refine tv (o_fieldAddr (o := 0) Try.underlying69 rfl rfl sz27 rfl) ?_; refine tv (o_load p27 rfl (by repeat (first | with_reducible exact has_here | with_reducible exact has_pt | apply has_left)) rfl) ?_; refine tv (o_nilCheck rfl) ?_; refine tv (o_fieldAddr (o := 1) Try.underlying66 rfl rfl sz64 rfl) ?_; refine tv (o_load p64 rfl (by repeat (first | with_reducible exact has_here | with_reducible exact has_pt | apply has_left)) rfl) ?_; refine tl_c rfl (o_call bd46 rfl (Clear_c (s := s60) (hlw := by rw [hg4l]; exact hlw) (hroom := (hg4.le (by omega)).room))) ?_; rintro _ _ ⟨e70, s70, hs70, rfl, rfl⟩
                have hcm9 : comS at_ sz n f s = ((e70, true), s70) := com_cl (by rw [hLF]; exact hs29) (by rw [hLL]; exact hll0) (by rw [hLL]; exact hs48) (by rw [hLL]; exact hs56) hs60 hs70
                refine tla ?_; refine nq ?_; refine tc_fall hsc ?_; exact ⟨_, _, hcm9, rfl, rfl, (by repeat (first | with_reducible exact dr_refl | apply dr_keep | apply dr_drop))⟩
end Go.Vl

namespace Go.Vl
open Go Go.Proofs
theorem lw12 {s : DevS} (h : s.ls.length = 16) : LogW (s.ls.length * 64) 128 576 := by rw [h]; exact ⟨by decide, by decide, by decide, by decide, by decide⟩
/-- What the statement's own example puts in. -/
def fW1 : TF := layF 64 [1, 2, 3] false tf0
def fW : TF := layF 66 [9, 9] true fW1
theorem fW_ext : xcl (extX [(64, [1, 2, 9])]) = ints [64, 3] := rfl
theorem fW1_eq : layF 64 [1, 2, 3] false tf0 = fW1 := rfl
theorem fW_eq : layF 66 [9, 9] true fW1 = fW := rfl
theorem fW_runs : runsF 1024 false fW = [(64, [1, 2, 9])] ∧ runsF 1024 true fW = [(67, [9])] := by decide +kernel
theorem fW_com : (comS 128 576 1024 fW (newS 16)).1 = (0, true) := by decide +kernel
theorem fW_img : (((imgS (comS 128 576 1024 fW (newS 16)).2).drop 64).take 5) = [1, 2, 9, 9, 0] := by decide +kernel
theorem fW_off : (comS 128 576 1024 fW (newS 16)).2.off = false := by decide +kernel
theorem fW_len : (comS 128 576 1024 fW (newS 16)).2.ls.length = 16 := by decide +kernel
theorem fW_stp : stpS 128 576 (comS 128 576 1024 fW (newS 16)).2 = 0 := by decide +kernel
theorem new_off (n : Nat) : (newS n).off = false := rfl
theorem new_ops (n : Nat) : (newS n).ops = 0 := rfl
theorem new_len (n : Nat) : (newS n).ls.length = n := by simp [newS]
theorem new_stp : stpS 128 576 (newS 16) = 0 := by decide +kernel
theorem fW_ov : ovF fW 64 (((imgS (newS 16)).drop 64).take 5) = [1, 2, 9, 9, 0] := by decide +kernel
theorem new_room : Room (2 * 1024 + 576 + 8) (newS 16) := fun l hl => by
  simp only [newS, List.mem_replicate] at hl; rw [hl.2]; decide
attribute [local irreducible] crk crL crc Sl pt ro Dev imgS recS readS recsF rdW rdO rkT Parts rvl recordsS runsL adrF kcl xcl kys runA runsF layF linR flLs stoL writeT writeS comS clearS extX
theorem opened12_c {A R : SP} {C : SP → SP} {d : Nat} {s : DevS} (hc : Ct A (Dev d s) R C := by repeat (first | with_reducible exact ct_here | apply ct_left)) (hls : s.ls.length = 16 := by assumption) :
    Fn Try.prog 20 #[.pointer (some ⟨d, 0, none⟩)] (A) (fun r B => ∃ lg p, r = .pointer (some ⟨p, 0, none⟩) ∧ B = A * pt lg (cl (lcs11 d 128 576) 109) * pt p (cl (pocs lg d none) 66)) := by
  refine fn_enterW (args := [.pointer (some ⟨d, 0, none⟩)]) Try.func20 rfl Try.ntmps20 (by simp) ?_; refine sr ?_; refine tla ?_; refine nq ?_; refine sr ?_; refine tlm ?_; refine tl_c rfl (o_call bd39 rfl (Open_ok (hc := hc) (p := 128) (q := 576) (hok := by rw [hls]; omega))) ?_; rintro _ _ ⟨b8, rfl, rfl⟩; refine tlm ?_; refine tv (o_extract rfl rfl) ?_; refine tv (o_extract rfl rfl) ?_; refine tla ?_; refine tla ?_; refine nq ?_; refine tc_seq ?_; refine sr ?_; refine tlm ?_; refine tv (o_nei rfl rfl) ?_; refine nq ?_; refine tc_cond rfl (fun h => ?_) (fun h => ?_)
  · exfalso; simp at h
  · try simp only [lv1, lv2, lv3, lv4, lv5, lv6, Bool.not_true, Bool.not_false] at h
    refine tc_skip ?_; refine q_then_n ?_; refine sr ?_; refine tlm ?_; refine tlm ?_; refine tl_c rfl (o_call bd40 rfl (New12_c (hc := ct_left hc) (at_ := 128) (sz := 576) (hl := has_here) (hlw := lw12 hls))) ?_; rintro _ _ ⟨p16, rfl, rfl⟩; refine tlm ?_; refine tv (o_extract rfl rfl) ?_; refine tv (o_extract rfl rfl) ?_; refine tla ?_; refine tla ?_; refine nq ?_; refine tc_seq ?_; refine sr ?_; refine tlm ?_; refine tv (o_nei rfl rfl) ?_; refine nq ?_; refine tc_cond rfl (fun h => ?_) (fun h => ?_)
    · exfalso; simp at h
    · try simp only [lv1, lv2, lv3, lv4, lv5, lv6, Bool.not_true, Bool.not_false] at h
      refine tc_skip ?_; refine q_then_n ?_; refine sr ?_; refine tlm ?_; refine tla ?_; refine nq ?_; refine tc_ret ?_; exact ⟨_, _, res1 rfl rfl, Dr.sat (by repeat (first | with_reducible exact dr_refl | apply dr_keep | apply dr_drop)), b8, p16, rfl, rfl⟩
end Go.Vl

namespace Go.Vl
open Go Go.Proofs
section
variable {A R : SP} {C : SP → SP} {t p lg d mb at_ sz : Nat} {M : MS} {over : Bool} {s : DevS} (hc : Ct A (TxA t p lg d mb at_ sz M over s) R C)
include hc
theorem txa_dev : Ct A (Dev d s) (R * pt p (cl (pocs lg d (if over then none else some t)) 66) * pt lg (cl (lcs11 d at_ sz) 109) * pt t (cl (txcs p mb over) 69) * pt mb (mpo .i64 M)) (fun Y => R * pt p (cl (pocs lg d (if over then none else some t)) 66) * pt lg (cl (lcs11 d at_ sz) 109) * pt t (cl (txcs p mb over) 69) * pt mb (mpo .i64 M) * Y) :=
  ⟨by rw [hc.1]; unfold TxA; ac_rfl, fun _ => rfl⟩
theorem txa_p : Has A p (cl (pocs lg d (if over then none else some t)) 66) := fun g w h => by
  rw [hc.1] at h; unfold TxA at h; exact h.right.left.left.left.left.hp.elim fun x hx => has_pt g w (h.right.left.left.left.left)
theorem txa_t : Has A t (cl (txcs p mb over) 69) := fun g w h => by
  rw [hc.1] at h; unfold TxA at h; exact has_pt g w (h.right.left.right)
theorem txa_mb : Has A mb (mpo .i64 M) := fun g w h => by
  rw [hc.1] at h; unfold TxA at h; exact has_pt g w (h.right.right)
end
theorem com_eq {x : (Int × Bool) × DevS} {e : Int} {b : Bool} {s : DevS} (h : x = ((e, b), s)) (h1 : x.1 = (0, true)) : e = 0 ∧ b = true := by rw [h] at h1; simpa using h1
attribute [local irreducible] crk crL crc Sl pt ro Dev imgS recS readS recsF rdW rdO rkT Parts rvl recordsS runsL adrF kcl xcl kys runA runsF layF linR flLs stoL writeT writeS comS clearS extX ovF newS fW fW1
theorem CommitO_c {A : SP} {p t mb : Nat} (ht : Has A t (cl (txcs p mb true) 69) := by (repeat (first | assumption | with_reducible exact has_here | with_reducible exact has_pt | apply has_left))) :
    Fn Try.prog 25 #[.pointer (some ⟨t, 0, none⟩)] (A) (fun r B => r = .int .i64 3 ∧ A = B) := by
  refine fn_enterW (args := [.pointer (some ⟨t, 0, none⟩)]) Try.func25 rfl Try.ntmps25 (by simp) ?_; refine sr ?_; refine tla ?_; refine nq ?_; refine tc_scope (l := 0) (fun _ _ => False) rfl (fun _ _ h => h.elim) ?_
  intro hsc
  refine sr ?_; refine tlm ?_; refine tl_c rfl (o_call bd27 rfl (begunO_c (ht := ht))) ?_; rintro _ _ ⟨rfl, rfl⟩; refine tla ?_; refine nq ?_; refine tc_seq ?_; refine sr ?_; refine tlm ?_; refine tv (o_nei rfl rfl) ?_; refine nq ?_; refine tc_cond rfl (fun h => ?_) (fun h => ?_)
  · try simp only [lv1, lv2, lv3, lv4, lv5, lv6, Bool.not_true, Bool.not_false] at h
    refine sr ?_; refine tlm ?_; refine tla ?_; refine nq ?_; refine tc_ret ?_; refine q_then_r (q_sc_r ?_); exact ⟨.int .i64 3, _, res1 rfl rfl, Dr.sat (by repeat (first | with_reducible exact dr_refl | apply dr_keep | apply dr_drop)), rfl, rfl⟩
  · exfalso; simp at h
set_option maxRecDepth 20000 in
set_option maxHeartbeats 2000000 in
theorem works_c {A : SP} :
    Fn Try.prog 5 #[] (A) (fun r B => r = .bool true ∧ A = B) := by
  refine fn_enterW (args := []) Try.func5 rfl Try.ntmps5 (by simp) ?_
  have hl0 : (newS 16).ls.length = 16 := new_len 16
  have ho0 : (newS 16).off = false := new_off 16
  refine sr ?_; refine tla ?_; refine nq ?_; refine sr ?_; refine tl_c rfl (o_call bd21 rfl (New_c (n := 16))) ?_; rintro _ _ ⟨d1, rfl, rfl⟩; refine tlm ?_; refine tv (o_extract rfl rfl) ?_; refine tv (o_extract rfl rfl) ?_; refine tla ?_; refine tla ?_; refine nq ?_; refine sr ?_; refine tlm ?_; refine tl_c rfl (o_call bd20 rfl (opened12_c (s := newS 16))) ?_; rintro _ _ ⟨lg1, p1, rfl, rfl⟩; refine tla ?_; refine nq ?_; refine tc_seq ?_; refine sr ?_; refine tlm ?_; refine tv (o_nei rfl rfl) ?_; refine tlm ?_; refine tl_bool (d := 17) rfl (fun h => ?_) (fun h => ?_)
  · exfalso; simp at h
  · try simp only [lv1, lv2, lv3, lv4, lv5, lv6, Bool.not_true, Bool.not_false] at h
    refine tlm ?_; refine tv (o_eqp Try.underlying27 rfl rfl) ?_; refine tv (o_pick_f rfl (by conv => lhs; whnf)) ?_; refine tlm ?_; refine tl_bool (d := 21) rfl (fun h => ?_) (fun h => ?_)
    · exfalso; simp at h
    · try simp only [lv1, lv2, lv3, lv4, lv5, lv6, Bool.not_true, Bool.not_false] at h
      refine tlm ?_; refine tl_c rfl (o_call bd16 rfl (State12_c (s := newS 16) (at_ := 128) (sz := 576) (hl := by (repeat (first | assumption | with_reducible exact has_here | with_reducible exact has_pt | apply has_left))) (hp := by (repeat (first | assumption | with_reducible exact has_here | with_reducible exact has_pt | apply has_left))) (hlw := lw12 hl0))) ?_; rintro _ _ ⟨rfl, rfl⟩; refine tl_env (d := 23) (v := .int .i64 0) (by show Value.int .i64 (stpS _ _ _) = _; rw [new_stp]) ?_; refine tv (o_nei rfl rfl) ?_; refine tv (o_pick_f rfl (by conv => lhs; whnf)) ?_; refine tlm ?_; refine tl_bool (d := 26) rfl (fun h => ?_) (fun h => ?_)
      · exfalso; simp at h
      · try simp only [lv1, lv2, lv3, lv4, lv5, lv6, Bool.not_true, Bool.not_false] at h
        refine tlm ?_; refine tl_c rfl (o_call bd22 rfl (Size12_c (s := newS 16))) ?_; rintro _ _ ⟨rfl, rfl⟩; refine tl_env (d := 28) (v := .int .i64 1024) (by show Value.int .i64 _ = _; rw [hl0]; rfl) ?_; refine tv (o_nei rfl rfl) ?_; refine tv (o_pick_f rfl (by conv => lhs; whnf)) ?_; refine nq ?_; refine tc_cond rfl (fun h => ?_) (fun h => ?_)
        · exfalso; simp at h
        · try simp only [lv1, lv2, lv3, lv4, lv5, lv6, Bool.not_true, Bool.not_false] at h
          refine tc_skip ?_; refine q_then_n ?_; refine sr ?_; refine tlm ?_; refine tl_c rfl (o_call bd12 rfl (Begin12_ok (C := fun Y => Y) (R := A) (s := newS 16) (at_ := 128) (sz := 576) (p := p1) (lg := lg1) (d := d1) (hA := by ac_rfl) (hlw := lw12 hl0) (ho := ho0) (hst := new_stp))) ?_; rintro _ _ ⟨t1, mb1, rfl, rfl⟩; refine tlm ?_; refine tv (o_extract rfl rfl) ?_; refine tv (o_extract rfl rfl) ?_; refine tla ?_; refine tla ?_; refine nq ?_; refine tc_seq ?_; refine sr ?_; refine tlm ?_; refine tv (o_nei rfl rfl) ?_; refine tlm ?_; refine tl_bool (d := 38) rfl (fun h => ?_) (fun h => ?_)
          · exfalso; simp at h
          · try simp only [lv1, lv2, lv3, lv4, lv5, lv6, Bool.not_true, Bool.not_false] at h
            refine tlm ?_; refine tv (o_eqp Try.underlying28 rfl rfl) ?_; refine tv (o_pick_f rfl (by conv => lhs; whnf)) ?_; refine tlm ?_; refine tl_bool (d := 42) rfl (fun h => ?_) (fun h => ?_)
            · exfalso; simp at h
            · try simp only [lv1, lv2, lv3, lv4, lv5, lv6, Bool.not_true, Bool.not_false] at h
              refine tlm ?_; refine tl_x rfl (o_buildSliceL (k := 1) (vs := bys [1, 2, 3]) (l := bys [1, 2, 3]) Try.underlying22 sz5 z5 rfl rfl (by decide) (by decide) (by intro v hv; simp only [bys, b8, List.map_cons, List.map_nil, List.mem_cons, List.not_mem_nil, or_false] at hv; rcases hv with rfl | rfl | rfl <;> rfl) rfl) ?_; rintro _ _ ⟨b44, rfl, rfl⟩; refine tl_c rfl (o_call bd23 rfl (StoreT_c (s := newS 16) (n := 1024) (f := tf0) (q := 64) (xs := [1, 2, 3]) (hM := mf_nil 0 1024) (hr := (by repeat (first | with_reducible exact rs_sl | with_reducible exact rs_pt0 | apply Rs.left))) (hm := rfl) (hb := by decide))) ?_; rintro _ _ ⟨M45, rfl, hM45, rfl⟩
              rw [fW1_eq] at hM45
              refine tv (o_nei rfl rfl) ?_; refine tv (o_pick_f rfl (by conv => lhs; whnf)) ?_; refine tlm ?_; refine tl_bool (d := 48) rfl (fun h => ?_) (fun h => ?_)
              · exfalso; simp at h
              · try simp only [lv1, lv2, lv3, lv4, lv5, lv6, Bool.not_true, Bool.not_false] at h
                refine tlm ?_; refine tl_x rfl (o_buildSliceL (k := 1) (vs := bys [9, 9]) (l := bys [9, 9]) Try.underlying22 sz5 z5 rfl rfl (by decide) (by decide) (by intro v hv; simp only [bys, b8, List.map_cons, List.map_nil, List.mem_cons, List.not_mem_nil, or_false] at hv; rcases hv with rfl | rfl <;> rfl) rfl) ?_; rintro _ _ ⟨b50, rfl, rfl⟩; refine tl_c rfl (o_call bd24 rfl (FreshT_c (s := newS 16) (n := 1024) (f := fW1) (q := 66) (xs := [9, 9]) (hM := hM45) (hr := (by repeat (first | with_reducible exact rs_sl | with_reducible exact rs_pt0 | apply Rs.left))) (hm := rfl) (hb := by decide))) ?_; rintro _ _ ⟨M51, rfl, hM51, rfl⟩
                rw [fW_eq] at hM51
                refine tv (o_nei rfl rfl) ?_; refine tv (o_pick_f rfl (by conv => lhs; whnf)) ?_; refine tlm ?_; refine tl_bool (d := 54) rfl (fun h => ?_) (fun h => ?_)
                · exfalso; simp at h
                · try simp only [lv1, lv2, lv3, lv4, lv5, lv6, Bool.not_true, Bool.not_false] at h
                  refine tlm ?_; refine tl_c rfl (o_call bd13 rfl (Ops_c (hc := txa_dev (by repeat (first | with_reducible exact ct_here | apply ct_left))))) ?_; rintro _ _ ⟨rfl, rfl⟩; refine tl_env (d := 56) (v := .int .i64 0) (by show Value.int .i64 _ = _; rw [new_ops]) ?_; refine tv (o_nei rfl rfl) ?_; refine tv (o_pick_f rfl (by conv => lhs; whnf)) ?_; refine nq ?_; refine tc_cond rfl (fun h => ?_) (fun h => ?_)
                  · exfalso; simp at h
                  · try simp only [lv1, lv2, lv3, lv4, lv5, lv6, Bool.not_true, Bool.not_false] at h
                    refine tc_skip ?_; refine q_then_n ?_; refine sr ?_; refine tlm ?_; refine tl_c rfl (o_call bd11 rfl (Extents12_c (M := M51) (p := p1) (L := [(64, [1, 2, 9])]) (ht := txa_t (by repeat (first | with_reducible exact ct_here | apply ct_left))) (hmb := txa_mb (by repeat (first | with_reducible exact ct_here | apply ct_left))) (hM := hM51) (hX := fW_runs.1) (hLl := by decide))) ?_; rintro _ _ ⟨a60, c60, rfl, hc60, rfl⟩
                    rw [fW_ext]
                    refine tla ?_; refine nq ?_; refine sr ?_; refine tlm ?_; refine tl_c rfl (o_call bd8 rfl (LoadT_c (s := newS 16) (f := fW) (q := 64) (m := 5) (hM := hM51))) ?_; rintro _ _ ⟨a63, c63, rfl, hc63, rfl⟩; refine tlm ?_; refine tv (o_extract rfl rfl) ?_; refine tv (o_extract rfl rfl) ?_; refine tla ?_; refine tla ?_; refine nq ?_; refine tc_seq ?_; refine sr ?_; refine tlm ?_; refine tv (o_nei rfl rfl) ?_; refine tlm ?_; refine tl_bool (d := 68) rfl (fun h => ?_) (fun h => ?_)
                    · exfalso; simp at h
                    · try simp only [lv1, lv2, lv3, lv4, lv5, lv6, Bool.not_true, Bool.not_false] at h
                      refine tlm ?_; refine tl_x rfl (o_buildSliceL (k := 1) (vs := bys [1, 2, 9, 9, 0]) (l := bys [1, 2, 9, 9, 0]) Try.underlying22 sz5 z5 rfl rfl (by decide) (by decide) (by intro v hv; simp only [bys, b8, List.map_cons, List.map_nil, List.mem_cons, List.not_mem_nil, or_false] at hv; rcases hv with rfl | rfl | rfl | rfl | rfl <;> rfl) rfl) ?_; rintro _ _ ⟨b70, rfl, rfl⟩; refine tl_c rfl (o_call bd10 rfl (EqBytes_c (xs := ovF fW 64 (((imgS (newS 16)).drop 64).take 5)) (ys := [1, 2, 9, 9, 0]) (h1 := (by repeat (first | with_reducible exact rs_sl | with_reducible exact rs_pt0 | apply Rs.left))) (h2 := show Rs _ _ (bys [1, 2, 9, 9, 0]) from by repeat (first | exact rs_pt rfl | apply Rs.left)) (hx := by rw [fW_ov]; rfl) (hy := rfl))) ?_; rintro _ _ ⟨rfl, rfl⟩; refine tl_env (d := 71) (v := .bool true) (by show Value.bool (decide _) = _; rw [decide_eq_true fW_ov]) ?_; refine tv (o_not rfl) ?_; refine tv (o_pick_f rfl (by conv => lhs; whnf)) ?_; refine tlm ?_; refine tl_bool (d := 74) rfl (fun h => ?_) (fun h => ?_)
                      · exfalso; simp at h
                      · try simp only [lv1, lv2, lv3, lv4, lv5, lv6, Bool.not_true, Bool.not_false] at h
                        refine tlm ?_; refine tv (o_len Try.underlying43 rfl) ?_; refine tv (o_nei rfl rfl) ?_; refine tv (o_pick_f rfl (by conv => lhs; whnf)) ?_; refine tlm ?_; refine tl_bool (d := 79) rfl (fun h => ?_) (fun h => ?_)
                        · exfalso; simp at h
                        · try simp only [lv1, lv2, lv3, lv4, lv5, lv6, Bool.not_true, Bool.not_false] at h
                          refine tlm ?_; refine tv (o_ixP (j := 0) (a := a60) Try.underlying43 sz46 rfl rfl (by decide) (nn_rs (xs := ints [64, 3]) (by repeat (first | with_reducible exact rs_sl | with_reducible exact rs_pt0 | apply Rs.left)) (fun _ => by decide))) ?_; refine tv (o_ldPN (a := a60) (xs := ints [64, 3]) (vs := ints [64, 3]) a46 sz46 rfl (by repeat (first | with_reducible exact rs_sl | with_reducible exact rs_pt0 | apply Rs.left)) rfl rfl (by decide)) ?_; refine tv (o_bS (l := [_, _]) (pv_cons (by conv => lhs; whnf) (pv_cons (by conv => lhs; whnf) pv_nil)) Try.underlying46 z46 (pl46 Try.underlying46) rfl) ?_; refine tl_env (d := 83) (v := .agg (ints [64, 3]).toArray) (rfl) ?_; refine tv (o_nest (k := 2) (l := [64, 3]) (m := [64, 3]) Try.underlying46 (by kernel_rfl) (by kernel_rfl) (by kernel_rfl) rfl rfl rfl rfl) ?_; refine tv (o_pick_f rfl (by conv => lhs; whnf)) ?_; refine tlm ?_; refine tl_bool (d := 86) rfl (fun h => ?_) (fun h => ?_)
                          · exfalso; simp at h
                          · try simp only [lv1, lv2, lv3, lv4, lv5, lv6, Bool.not_true, Bool.not_false] at h
                            refine tlm ?_; refine tl_c rfl (o_call bd25 rfl (Commit12_c (s := newS 16) (at_ := 128) (sz := 576) (n := 1024) (f := fW) (hM := hM51) (hlw := lw12 hl0) (hroom := new_room))) ?_; rintro _ _ ⟨e88, b88, s2, M2, hs88, rfl, hM88, rfl⟩
                            obtain ⟨rfl, rfl⟩ := com_eq hs88 fW_com
                            have hs2 : (comS 128 576 1024 fW (newS 16)).2 = s2 := by rw [hs88]
                            have hst2 : stpS 128 576 s2 = 0 := hs2 ▸ fW_stp
                            have ho2 : s2.off = false := hs2 ▸ fW_off
                            have hl2 : s2.ls.length = 16 := hs2 ▸ fW_len
                            have hi2 : ((imgS s2).drop 64).take 5 = [1, 2, 9, 9, 0] := hs2 ▸ fW_img
                            clear hs88 hs2
                            refine tv (o_nei rfl rfl) ?_; refine tv (o_pick_f rfl (by conv => lhs; whnf)) ?_; refine nq ?_; refine tc_cond rfl (fun h => ?_) (fun h => ?_)
                            · exfalso; simp at h
                            · try simp only [lv1, lv2, lv3, lv4, lv5, lv6, Bool.not_true, Bool.not_false] at h
                              refine tc_skip ?_; refine q_then_n ?_; refine tc_seq ?_; refine tc_pre (A' := A * TxA t1 p1 lg1 d1 mb1 128 576 M2 true s2) (fun _ _ h => Dr.sat (by repeat (first | with_reducible exact dr_refl | apply dr_keep | apply dr_drop)) _ _ h) ?_; refine tc_eq (show _ = A * pt t1 (cl (txcs p1 mb1 true) 69) * pt mb1 (mpo .i64 M2) * pt p1 (cl (pocs lg1 d1 none) 66) * pt lg1 (cl (lcs11 d1 128 576) 109) * Dev d1 s2 by unfold TxA; rw [if_pos rfl]; ac_rfl) ?_; refine tc_reg ?_; refine tlm ?_; refine tl_c rfl (o_call bd9 rfl (Load12_c (s := s2) (q := 64) (m := 5))) ?_; rintro _ _ ⟨a93, c93, rfl, hc93, rfl⟩
                              rw [hi2]
                              refine tlm ?_; refine tv (o_extract rfl rfl) ?_; refine tv (o_extract rfl rfl) ?_; refine tla ?_; refine tla ?_; refine nq ?_; refine sr ?_; refine tlm ?_; refine tl_c rfl (o_call bd12 rfl (Begin12_ok (C := fun Y => Y) (R := A * pt t1 (cl (txcs p1 mb1 true) 69) * pt mb1 (mpo .i64 M2) * Sl 1 (.slice a93 5 c93) 5 (bys [1, 2, 9, 9, 0])) (s := s2) (at_ := 128) (sz := 576) (p := p1) (lg := lg1) (d := d1) (hA := by ac_rfl) (hlw := lw12 hl2) (ho := ho2) (hst := hst2))) ?_; rintro _ _ ⟨t2, mb2, rfl, rfl⟩; refine tlm ?_; refine tv (o_extract rfl rfl) ?_; refine tv (o_extract rfl rfl) ?_; refine tla ?_; refine tla ?_; refine nq ?_; refine sr ?_; refine tlm ?_; refine tv (o_eqi rfl rfl) ?_; refine tlm ?_; refine tl_bool (d := 103) rfl (fun h => ?_) (fun h => ?_)
                              · try simp only [lv1, lv2, lv3, lv4, lv5, lv6, Bool.not_true, Bool.not_false] at h
                                refine tlm ?_; refine tl_x rfl (o_buildSliceL (k := 1) (vs := bys [1, 2, 9, 9, 0]) (l := bys [1, 2, 9, 9, 0]) Try.underlying22 sz5 z5 rfl rfl (by decide) (by decide) (by intro v hv; simp only [bys, b8, List.map_cons, List.map_nil, List.mem_cons, List.not_mem_nil, or_false] at hv; rcases hv with rfl | rfl | rfl | rfl | rfl <;> rfl) rfl) ?_; rintro _ _ ⟨b105, rfl, rfl⟩; refine tl_c rfl (o_call bd10 rfl (EqBytes_c (xs := [1, 2, 9, 9, 0]) (ys := [1, 2, 9, 9, 0]) (h1 := (by repeat (first | with_reducible exact rs_sl | with_reducible exact rs_pt0 | apply Rs.left))) (h2 := show Rs _ _ (bys [1, 2, 9, 9, 0]) from by repeat (first | exact rs_pt rfl | apply Rs.left)) (hx := rfl) (hy := rfl))) ?_; rintro _ _ ⟨rfl, rfl⟩; refine tl_env (d := 106) (v := .bool true) (rfl) ?_; refine tv (o_pick_t rfl (by conv => lhs; whnf)) ?_; refine tlm ?_; refine tl_bool (d := 108) rfl (fun h => ?_) (fun h => ?_)
                                · try simp only [lv1, lv2, lv3, lv4, lv5, lv6, Bool.not_true, Bool.not_false] at h
                                  refine tlm ?_; refine tv (o_eqi rfl rfl) ?_; refine tv (o_pick_t rfl (by conv => lhs; whnf)) ?_; refine tlm ?_; refine tl_bool (d := 112) rfl (fun h => ?_) (fun h => ?_)
                                  · try simp only [lv1, lv2, lv3, lv4, lv5, lv6, Bool.not_true, Bool.not_false] at h
                                    refine tlm ?_; refine tv (o_nep Try.underlying28 rfl rfl) ?_; refine tv (o_pick_t rfl (by conv => lhs; whnf)) ?_; refine tlm ?_; refine tl_bool (d := 116) rfl (fun h => ?_) (fun h => ?_)
                                    · try simp only [lv1, lv2, lv3, lv4, lv5, lv6, Bool.not_true, Bool.not_false] at h
                                      refine tlm ?_; refine tl_c rfl (o_call bd25 rfl (CommitO_c (p := p1) (t := t1) (mb := mb1) (ht := by (repeat (first | assumption | with_reducible exact has_here | with_reducible exact has_pt | apply has_left))))) ?_; rintro _ _ ⟨rfl, rfl⟩; refine tv (o_eqi rfl rfl) ?_; refine tv (o_pick_t rfl (by conv => lhs; whnf)) ?_; refine tlm ?_; refine tl_bool (d := 121) rfl (fun h => ?_) (fun h => ?_)
                                      · try simp only [lv1, lv2, lv3, lv4, lv5, lv6, Bool.not_true, Bool.not_false] at h
                                        refine tlm ?_; refine tl_c rfl (o_call bd14 rfl (DropT_c)) ?_; rintro _ _ ⟨rfl, rfl⟩; refine tv (o_eqi rfl rfl) ?_; refine tv (o_pick_t rfl (by conv => lhs; whnf)) ?_; refine tlm ?_; refine tl_bool (d := 126) rfl (fun h => ?_) (fun h => ?_)
                                        · try simp only [lv1, lv2, lv3, lv4, lv5, lv6, Bool.not_true, Bool.not_false] at h
                                          refine tlm ?_; refine tl_c rfl (o_call bd14 rfl (DropO_c (p := p1) (t := t2) (mb := mb2) (ht := txa_t (by repeat (first | with_reducible exact ct_here | apply ct_left))))) ?_; rintro _ _ ⟨rfl, rfl⟩; refine tv (o_eqi rfl rfl) ?_; refine tv (o_pick_t rfl (by conv => lhs; whnf)) ?_; refine tla ?_; refine nq ?_; refine tc_ret ?_; exact ⟨.bool true, A, res1 rfl rfl, Dr.sat (by repeat (first | with_reducible exact dr_refl | apply dr_keep | apply dr_drop)), rfl, rfl⟩
                                        · exfalso; simp at h
                                      · exfalso; simp at h
                                    · exfalso; simp at h
                                  · exfalso; simp at h
                                · exfalso; simp at h
                              · exfalso; simp at h
end Go.Vl

namespace Go.Vl
open Go Go.Proofs
theorem res4 {P : Program} {n : Nat} {fn : Func} {ρ : Env} {A : SP} {t u s r : Tmp} {v1 v2 v3 v4 : Value} (h : fn.results = #[.tmp t, .tmp u, .tmp s, .tmp r]) (h1 : ev n ρ (.tmp t) = v1) (h2 : ev n ρ (.tmp u) = v2) (h3 : ev n ρ (.tmp s) = v3) (h4 : ev n ρ (.tmp r) = v4) :
    Res P n fn ρ A (.tuple #[v1, v2, v3, v4]) := fun g a w ha hs => by
  have e1 : a.tmps.getD t undef = v1 := by rw [← h1, ← ha.eval]; rfl
  have e2 : a.tmps.getD u undef = v2 := by rw [← h2, ← ha.eval]; rfl
  have e3 : a.tmps.getD s undef = v3 := by rw [← h3, ← ha.eval]; rfl
  have e4 : a.tmps.getD r undef = v4 := by rw [← h4, ← ha.eval]; rfl
  simp only [results, h]; simp [← e1, ← e2, ← e3, ← e4]
theorem cut0 {a : Option Addr} {c : Nat} : cutAddr a c 0 1 = a := by unfold cutAddr; cases a <;> simp [Addr.add]
/-- The bytes of a device whose log has no records. -/
def stI (xs : List Nat) : List Nat := spl (sizedL 1024 xs) 128 (List.replicate 8 0)
theorem sized_len (n : Nat) (xs : List Nat) : (sizedL n xs).length = n := by unfold sizedL; rw [List.length_append, List.length_take, List.length_replicate]; omega
theorem sized_b {n : Nat} {xs : List Nat} (h : ∀ x ∈ xs, x < 256) : ∀ x ∈ sizedL n xs, x < 256 := fun x hx => by
  unfold sizedL at hx
  rcases List.mem_append.1 hx with h1 | h1
  · exact h x (List.mem_of_mem_take h1)
  · rw [(List.mem_replicate.1 h1).2]; decide
def stZ (xs : List Nat) (k : Nat) : List Nat := spl (sizedL 1024 xs) 128 (List.replicate k 0)
theorem stZ_zero (xs : List Nat) : stZ xs 0 = sizedL 1024 xs := by unfold stZ; rw [List.replicate_zero, spl_nil]
theorem stZ_succ (xs : List Nat) {k : Nat} (h : k < 8) : (stZ xs k).set (128 + k) 0 = stZ xs (k + 1) := spl_zero (by rw [sized_len]; omega)
theorem stz_len (xs : List Nat) {k : Nat} (h : k ≤ 8) : ((stZ xs k)).length = 1024 := by unfold stZ; rw [spl_length (by rw [List.length_replicate, sized_len]; omega), sized_len]
theorem stI_len (xs : List Nat) : (stI xs).length = 1024 := stz_len xs (Nat.le_refl 8)
theorem stI_b {xs : List Nat} (h : ∀ x ∈ xs, x < 256) : ∀ x ∈ stI xs, x < 256 := fun x hx => by
  unfold stI spl at hx
  rcases List.mem_append.1 hx with h1 | h1
  · rcases List.mem_append.1 h1 with h2 | h2
    · exact sized_b h x (List.mem_of_mem_take h2)
    · rw [(List.mem_replicate.1 h2).2]; decide
  · exact sized_b h x (List.mem_of_mem_drop h1)
theorem stI_word (xs : List Nat) : nm (((stI xs).drop 128).take 8) = 0 := by
  have := spl_mid (l := sizedL 1024 xs) (b := List.replicate 8 0) (p := 128) (by rw [List.length_replicate, sized_len]; decide)
  rw [List.length_replicate] at this
  unfold stI; rw [this]; decide
def stD (xs : List Nat) : DevS := fromS 16 (stI xs)
theorem stD_len (xs : List Nat) : (stD xs).ls.length = 16 := by simp [stD, fromS, newS]
theorem stD_off (xs : List Nat) : (stD xs).off = false := rfl
theorem stD_ops (xs : List Nat) : (stD xs).ops = 0 := rfl
theorem stD_img {xs : List Nat} (h : ∀ x ∈ xs, x < 256) : imgS (stD xs) = stI xs := img_from (stI_b h) (stI_len xs)
theorem stD_stp {xs : List Nat} (h : ∀ x ∈ xs, x < 256) : stpS 128 576 (stD xs) = 0 := by
  unfold stpS
  rw [records_none (stD_off xs) (lw12 (stD_len xs)) (by rw [stD_img h]; exact stI_word xs)]
  rfl
/-- Where a put goes, and how many of its bytes. -/
def plA (at_ : Int) : Nat := if at_ % 384 < 64 then (at_ % 384).toNat + 64 else (at_ % 384).toNat + 640
def plN (at_ : Int) (m : Nat) : Nat := min (min m 12) ((if at_ % 384 < 64 then 128 else 1024) - plA at_)
theorem pl_lt {at_ : Int} (h : at_ % 384 < 64) : plA at_ = (at_ % 384).toNat + 64 ∧ ∀ m, plN at_ m = min (min m 12) (128 - ((at_ % 384).toNat + 64)) := by
  have e : plA at_ = (at_ % 384).toNat + 64 := by unfold plA; rw [if_pos h]
  exact ⟨e, fun m => by unfold plN; rw [if_pos h, e]⟩
theorem pl_ge {at_ : Int} (h : ¬ at_ % 384 < 64) : plA at_ = (at_ % 384).toNat + 640 ∧ ∀ m, plN at_ m = min (min m 12) (1024 - ((at_ % 384).toNat + 640)) := by
  have e : plA at_ = (at_ % 384).toNat + 640 := by unfold plA; rw [if_neg h]
  exact ⟨e, fun m => by unfold plN; rw [if_neg h, e]⟩
theorem pl_in (at_ : Int) (m : Nat) : plA at_ + plN at_ m ≤ 1024 ∧ plN at_ m ≤ m ∧ plN at_ m ≤ 12 ∧ 64 ≤ plA at_ ∧ (plA at_ + plN at_ m ≤ 128 ∨ 704 ≤ plA at_) := by
  by_cases h : at_ % 384 < 64
  · obtain ⟨e1, e2⟩ := pl_lt h
    rw [e1, e2]; omega
  · obtain ⟨e1, e2⟩ := pl_ge h
    rw [e1, e2]; omega
attribute [local irreducible] crk crL crc Sl pt ro Dev imgS recS readS recsF rdW rdO rkT Parts rvl recordsS runsL adrF kcl xcl kys runA runsF layF linR flLs stoL writeT writeS comS clearS extX ovF newS fW fW1 sizedL
theorem start12_c {A : SP} {a : Option Addr} {m c : Nat} {xs : List Nat} (hr : Rs A a (bys xs) := by repeat (first | assumption | with_reducible exact rs_sl | with_reducible exact rs_pt0 | exact rs_none | apply Rs.left)) (hm : xs.length = m := by first | assumption | rfl) (hb : ∀ x ∈ xs, x < 256 := by assumption) (hml : m ≤ 140737488351232 := by omega) :
    Fn Try.prog 4 #[.slice a m c] (A) (fun r B => ∃ a c d p t lg mb, r = .tuple #[.slice a 1024 c, .pointer (some ⟨d, 0, none⟩), .pointer (some ⟨p, 0, none⟩), .pointer (some ⟨t, 0, none⟩)] ∧ 1024 ≤ c ∧ B = A * Sl 1 (.slice a 1024 c) 1024 (bys (stI xs)) * TxA t p lg d mb 128 576 ⟨[], 0⟩ false (stD xs)) := by
  refine fn_enterW (args := [.slice a m c]) Try.func4 rfl Try.ntmps4 (by simp) ?_; refine sr ?_; refine tla ?_; refine tla ?_; refine tla ?_; refine tla ?_; refine nq ?_; refine sr ?_; refine tlm ?_; refine tl_c rfl (o_call bd17 rfl (Sized_c (n := 1024) (xs := xs))) ?_; rintro _ _ ⟨a14, c14, rfl, hc14, rfl⟩; refine tla ?_; refine nq ?_; refine tc_seq ?_; refine sr ?_; refine tla ?_; refine nq ?_; refine tc_block ?_; refine tc_loop (fun kk ρ BB => ∃ (k : Nat), (k ≤ 8) ∧ kk = 8 - k ∧ ρ 7 = .int .i64 ((128 + k : Nat) : Int) ∧ ρ 6 = .slice a14 1024 c14 ∧ Dr BB (A * Sl 1 (.slice a14 1024 c14) 1024 (bys (stZ xs k)))) (m := 8 - (0)) ?_ ?_
  · exact ⟨0, by omega, rfl, rfl, rfl, by rw [stZ_zero]; repeat (first | with_reducible exact dr_refl | apply dr_keep | apply dr_drop)⟩
  · intro k ρ B hI
    obtain ⟨k, hq0, hkk1, hE7, hE6, hBA⟩ := hI
    refine tc_pre hBA.sat ?_
    clear hBA
    refine tc_env (d := 7) hE7 ?_; refine tc_env (d := 6) hE6 ?_
    clear hE7 hE6
    refine tc_seq ?_; refine sr ?_; refine tlm ?_; refine tv (o_lss rfl rfl) ?_; refine nq ?_; refine tc_cond rfl (fun h => ?_) (fun h => ?_)
    · have hk : k < 8 := by first | omega | (simp at h; omega)
      have hkl := stz_len xs (show k ≤ 8 by omega)
      refine tc_skip ?_; refine q_then_n ?_; refine tc_seq ?_; refine tc_block ?_; refine tc_reg ?_; refine tlm ?_; refine tlm ?_; refine tv (o_ixP1 Try.underlying22 sz5 rfl rfl (by omega) (nn_rs rs_sl (by rw [bys_length]; omega))) ?_; refine tl_u rfl (o_stP (ys := bys (stZ xs (k + 1))) sz5 rfl rfl rfl (by repeat (first | with_reducible exact ct_here | apply ct_left)) (by omega) (by rw [← stZ_succ xs hk]; exact bys_set _ _ 0)) ?_; refine tl_nil ?_; refine q_block_n (q_then_n ?_); refine tc_reg ?_; refine tlm ?_; refine tv (by first | exact o_addI rfl rfl (by omega) | exact o_add rfl rfl) ?_; refine tla ?_; refine nq ?_; exact ⟨_, by omega, k + 1, by omega, rfl, rfl, rfl, (by repeat (first | with_reducible exact dr_refl | apply dr_keep | apply dr_drop))⟩
    · obtain rfl : k = 8 := by first | omega | (simp at h; omega)
      rw [show (stZ xs 8) = stI xs from rfl]
      refine tc_exit ?_; refine q_then_e (q_then_e (q_block_x (q_then_n ?_))); refine sr ?_; refine tlm ?_; refine tl_c rfl (o_call bd19 rfl (CopyBytes_c (xs := stI xs) (hm := stI_len xs))) ?_; rintro _ _ ⟨a24, c24, rfl, hc24, rfl⟩; refine tl_c rfl (o_call bd18 rfl (From_c (n := 16) (xs := stI xs) (hr := rs_sl) (hx := stI_len xs) (hb := stI_b hb))) ?_; rintro _ _ ⟨d25, rfl, rfl⟩
      rw [show fromS 16 (stI xs) = stD xs from rfl]
      refine tlm ?_; refine tv (o_extract rfl rfl) ?_; refine tv (o_extract rfl rfl) ?_; refine tla ?_; refine tla ?_; refine nq ?_; refine tc_seq ?_; refine sr ?_; refine tlm ?_; refine tv (o_nei rfl rfl) ?_; refine nq ?_; refine tc_cond rfl (fun h => ?_) (fun h => ?_)
      · exfalso; simp at h
      · try simp only [lv1, lv2, lv3, lv4, lv5, lv6, Bool.not_true, Bool.not_false] at h
        refine tc_skip ?_; refine q_then_n ?_; refine sr ?_; refine tlm ?_; refine tl_c rfl (o_call bd20 rfl (opened12_c (s := stD xs) (hls := stD_len xs))) ?_; rintro _ _ ⟨lg31, p31, rfl, rfl⟩; refine tla ?_; refine nq ?_; refine sr ?_; refine tlm ?_; refine tl_c rfl (o_call bd12 rfl (Begin12_ok (C := fun Y => Y) (R := A * Sl 1 (.slice a14 1024 c14) 1024 (bys (stI xs)) * Sl 1 (.slice a24 1024 c24) 1024 (bys (stI xs))) (s := stD xs) (at_ := 128) (sz := 576) (p := p31) (lg := lg31) (d := d25) (hA := by ac_rfl) (hlw := lw12 (stD_len xs)) (ho := stD_off xs) (hst := stD_stp hb))) ?_; rintro _ _ ⟨t34, mb34, rfl, rfl⟩; refine tlm ?_; refine tv (o_extract rfl rfl) ?_; refine tv (o_extract rfl rfl) ?_; refine tla ?_; refine tla ?_; refine nq ?_; refine sr ?_; refine tlm ?_; refine tlm ?_; refine tlm ?_; refine tlm ?_; refine tla ?_; refine tla ?_; refine tla ?_; refine tla ?_; refine nq ?_; refine tc_ret ?_; exact ⟨_, _, res4 rfl rfl rfl rfl rfl, Dr.sat (by repeat (first | with_reducible exact dr_refl | apply dr_keep | apply dr_drop)), a14, c14, d25, p31, t34, lg31, mb34, rfl, hc14, rfl⟩
theorem place12_c {A : SP} {at_ : Int} {a : Option Addr} {m c : Nat} {fr : Bool} (hmc : m ≤ c) :
    Fn Try.prog 26 #[.agg #[.int .i64 at_, .slice a m c, .bool fr]] (A) (fun r B => r = .tuple #[.int .i64 (plA at_ : Nat), .slice a (plN at_ m) c] ∧ A = B) := by
  refine fn_enterW (args := [.agg #[.int .i64 at_, .slice a m c, .bool fr]]) Try.func26 rfl Try.ntmps26 (by simp) ?_; refine sr ?_; refine tl_x rfl (o_box rfl rfl) ?_; rintro _ _ ⟨b1, rfl, rfl⟩; refine tla ?_; refine tla ?_; refine nq ?_; refine sr ?_; refine tv (o_fieldAddr (o := 1) Try.underlying62 rfl rfl sz22 rfl) ?_; refine tv (o_load p22 rfl (by repeat (first | with_reducible exact has_here | with_reducible exact has_pt | apply has_left)) rfl) ?_; refine tla ?_; refine nq ?_; refine tc_seq ?_; refine sr ?_; refine tlm ?_; refine tv (o_len Try.underlying22 rfl) ?_; refine tv (o_gtr rfl rfl) ?_; refine nq ?_; refine tc_cut (fun ρ BB => ∃ (m2 : Nat), (m2 = min m 12) ∧ ρ 4 = .slice a m2 c ∧ ρ 1 = .pointer (some ⟨b1, 0, none⟩) ∧ Dr BB (A * pt b1 (cl [.int .i64 at_, .slice a m c, .bool fr] 62))) ?_ ?_
  · skip
    refine tc_cond rfl (fun h => ?_) (fun h => ?_)
    · have hm12 : 12 < m := by simp at h; omega
      refine tc_reg ?_; refine tlm ?_; refine tv (o_slice (l := 0) (h := 12) Try.underlying22 sz5 rfl bnd_none (bnd_nat rfl) (by omega) (by omega)) ?_; refine tl_env (d := 13) (v := .slice a 12 c) (by show Value.slice (cutAddr _ _ 0 1) (12 - 0) (c - 0) = _; rw [cut0, Nat.sub_zero, Nat.sub_zero]) ?_; refine tla ?_; refine tl_nil ?_; exact ⟨12, by omega, rfl, rfl, (by repeat (first | with_reducible exact dr_refl | apply dr_keep | apply dr_drop))⟩
    · have hm12 : m ≤ 12 := by simp at h; omega
      refine tc_skip ?_; exact ⟨m, by omega, rfl, rfl, (by repeat (first | with_reducible exact dr_refl | apply dr_keep | apply dr_drop))⟩
  · intro ρ B hI
    obtain ⟨m2, hj0, hE4, hE1, hBA⟩ := hI
    refine q_then_n ?_; refine tc_pre hBA.sat ?_
    clear hBA
    refine tc_env (d := 4) hE4 ?_; refine tc_env (d := 1) hE1 ?_
    clear hE4 hE1
    refine sr ?_; refine tla ?_; refine nq ?_; refine sr ?_; refine tv (o_fieldAddr (o := 0) Try.underlying62 rfl rfl sz3 rfl) ?_; refine tv (o_load p3 rfl (by repeat (first | with_reducible exact has_here | with_reducible exact has_pt | apply has_left)) rfl) ?_; refine tlm ?_; refine tv (by first | exact o_addI rfl rfl (by omega) | exact o_add rfl rfl) ?_; refine tv (by first | exact o_subI rfl rfl (by omega) | exact o_sub rfl rfl) ?_; refine tv (by first | exact o_subI rfl rfl (by omega) | exact o_sub rfl rfl) ?_; refine tl_c rfl (o_call bd7 rfl (Within_c (i := at_) (n := 384))) ?_; rintro _ _ ⟨rfl, rfl⟩; refine tl_env (d := 20) (v := .int .i64 (at_ % 384)) (rfl) ?_
    have hw0 := Int.emod_nonneg at_ (show (384 : Int) ≠ 0 by decide)
    have hw1 := Int.emod_lt_of_pos at_ (show (0 : Int) < 384 by decide)
    obtain ⟨q, hq⟩ : ∃ q : Nat, at_ % 384 = q := ⟨(at_ % 384).toNat, by omega⟩
    refine tla ?_; refine nq ?_; refine tc_seq ?_; refine sr ?_; refine tlm ?_; refine tlm ?_; refine tv (o_lss rfl rfl) ?_; refine nq ?_; refine tc_cond rfl (fun h => ?_) (fun h => ?_)
    · have hlt : at_ % 384 < 64 := by simpa using h
      obtain ⟨e1, e2⟩ := pl_lt hlt
      rw [hq, Int.toNat_natCast] at e1 e2
      specialize e2 m
      refine sr ?_; refine tlm ?_; refine tv (by first | exact o_addI rfl rfl (by omega) | exact o_add rfl rfl) ?_; refine tl_env (d := 25) (v := .int .i64 ((q + 64 : Nat) : Int)) (by first | rfl | (show Value.int .i64 _ = _; congr 1; omega)) ?_; refine tla ?_; refine nq ?_; refine tc_seq ?_; refine sr ?_; refine tlm ?_; refine tv (o_len Try.underlying22 rfl) ?_; refine tlm ?_; refine tv (by first | exact o_subI rfl rfl (by omega) | exact o_sub rfl rfl) ?_; refine tl_env (d := 29) (v := .int .i64 ((128 - (q + 64) : Nat) : Int)) (congrArg (Value.int .i64) (by omega)) ?_; refine tv (o_gtr rfl rfl) ?_; refine nq ?_; refine tc_cond rfl (fun h => ?_) (fun h => ?_)
      · have h9 : 128 - (q + 64) < m2 := by first | exact h | (simp at h; omega)
        refine tc_reg ?_; refine tlm ?_; refine tlm ?_; refine tv (by first | exact o_subI rfl rfl (by omega) | exact o_sub rfl rfl) ?_; refine tl_env (d := 33) (v := .int .i64 ((128 - (q + 64) : Nat) : Int)) (congrArg (Value.int .i64) (by omega)) ?_; refine tv (o_slice (l := 0) (h := 128 - (q + 64)) Try.underlying22 sz5 rfl bnd_none (bnd_nat rfl) (by omega) (by omega)) ?_; refine tl_env (d := 34) (v := .slice a (128 - (q + 64)) c) (by show Value.slice (cutAddr _ _ 0 1) ((128 - (q + 64)) - 0) (c - 0) = _; rw [cut0, Nat.sub_zero, Nat.sub_zero]) ?_; refine tla ?_; refine nq ?_; refine sr ?_; refine tlm ?_; refine tlm ?_; refine tla ?_; refine tla ?_; refine nq ?_; refine tc_ret ?_; refine q_then_r ?_
        have e9 : plN at_ m = (128 - (q + 64)) := by rw [e2]; omega
        exact ⟨.tuple #[.int .i64 ((q + 64 : Nat) : Int), .slice a (128 - (q + 64)) c], _, res2 rfl rfl rfl, Dr.sat (by repeat (first | with_reducible exact dr_refl | apply dr_keep | apply dr_drop)), by rw [e1, e9], rfl⟩
      · have h9 : m2 ≤ 128 - (q + 64) := by first | omega | (simp at h; omega)
        refine tc_skip ?_; refine q_then_n ?_; refine sr ?_; refine tlm ?_; refine tlm ?_; refine tla ?_; refine tla ?_; refine nq ?_; refine tc_ret ?_; refine q_then_r ?_
        have e9 : plN at_ m = m2 := by rw [e2]; omega
        exact ⟨.tuple #[.int .i64 ((q + 64 : Nat) : Int), .slice a m2 c], _, res2 rfl rfl rfl, Dr.sat (by repeat (first | with_reducible exact dr_refl | apply dr_keep | apply dr_drop)), by rw [e1, e9], rfl⟩
    · have hge : ¬ at_ % 384 < 64 := by simpa using h
      obtain ⟨e1, e2⟩ := pl_ge hge
      rw [hq, Int.toNat_natCast] at e1 e2
      specialize e2 m
      refine tc_skip ?_; refine q_then_n ?_; refine sr ?_; refine tlm ?_; refine tlm ?_; refine tv (by first | exact o_subI rfl rfl (by omega) | exact o_sub rfl rfl) ?_; refine tv (by first | exact o_addI rfl rfl (by omega) | exact o_add rfl rfl) ?_; refine tv (by first | exact o_addI rfl rfl (by omega) | exact o_add rfl rfl) ?_; refine tl_env (d := 41) (v := .int .i64 ((q + 640 : Nat) : Int)) (congrArg (Value.int .i64) (by omega)) ?_; refine tla ?_; refine nq ?_; refine tc_seq ?_; refine sr ?_; refine tlm ?_; refine tv (o_len Try.underlying22 rfl) ?_; refine tlm ?_; refine tv (by first | exact o_subI rfl rfl (by omega) | exact o_sub rfl rfl) ?_; refine tl_env (d := 45) (v := .int .i64 ((1024 - (q + 640) : Nat) : Int)) (congrArg (Value.int .i64) (by omega)) ?_; refine tv (o_gtr rfl rfl) ?_; refine nq ?_; refine tc_cond rfl (fun h => ?_) (fun h => ?_)
      · have h9 : 1024 - (q + 640) < m2 := by first | exact h | (simp at h; omega)
        refine tc_reg ?_; refine tlm ?_; refine tlm ?_; refine tv (by first | exact o_subI rfl rfl (by omega) | exact o_sub rfl rfl) ?_; refine tl_env (d := 49) (v := .int .i64 ((1024 - (q + 640) : Nat) : Int)) (congrArg (Value.int .i64) (by omega)) ?_; refine tv (o_slice (l := 0) (h := 1024 - (q + 640)) Try.underlying22 sz5 rfl bnd_none (bnd_nat rfl) (by omega) (by omega)) ?_; refine tl_env (d := 50) (v := .slice a (1024 - (q + 640)) c) (by show Value.slice (cutAddr _ _ 0 1) ((1024 - (q + 640)) - 0) (c - 0) = _; rw [cut0, Nat.sub_zero, Nat.sub_zero]) ?_; refine tla ?_; refine nq ?_; refine sr ?_; refine tlm ?_; refine tlm ?_; refine tla ?_; refine tla ?_; refine nq ?_; refine tc_ret ?_
        have e9 : plN at_ m = (1024 - (q + 640)) := by rw [e2]; omega
        exact ⟨.tuple #[.int .i64 ((q + 640 : Nat) : Int), .slice a (1024 - (q + 640)) c], _, res2 rfl rfl rfl, Dr.sat (by repeat (first | with_reducible exact dr_refl | apply dr_keep | apply dr_drop)), by rw [e1, e9], rfl⟩
      · have h9 : m2 ≤ 1024 - (q + 640) := by first | omega | (simp at h; omega)
        refine tc_skip ?_; refine q_then_n ?_; refine sr ?_; refine tlm ?_; refine tlm ?_; refine tla ?_; refine tla ?_; refine nq ?_; refine tc_ret ?_
        have e9 : plN at_ m = m2 := by rw [e2]; omega
        exact ⟨.tuple #[.int .i64 ((q + 640 : Nat) : Int), .slice a m2 c], _, res2 rfl rfl rfl, Dr.sat (by repeat (first | with_reducible exact dr_refl | apply dr_keep | apply dr_drop)), by rw [e1, e9], rfl⟩
end Go.Vl

namespace Go.Vl
open Go Go.Proofs
/-- A put. -/
structure Pu12 where
  q : Int
  a : Option Addr
  c : Nat
  b : List Nat
  fr : Bool
def Pu12.cells (x : Pu12) : List Value := [.int .i64 x.q, .slice x.a x.b.length x.c, .bool x.fr]
structure PuW (A : SP) (x : Pu12) : Prop where
  q : -9223372036854775808 ≤ x.q ∧ x.q ≤ 9223372036854775807
  cap : x.b.length ≤ x.c
  rs : Rs A x.a (bys x.b)
  by_ : ∀ y ∈ x.b, y < 256
theorem PuW.left {A X : SP} {x : Pu12} (h : PuW A x) : PuW (A * X) x := ⟨h.q, h.cap, h.rs.left, h.by_⟩
def ptl (l : List Pu12) : List Value := l.flatMap Pu12.cells
theorem ptl_cons (x : Pu12) (l : List Pu12) : ptl (x :: l) = x.cells ++ ptl l := rfl
theorem ptl_len : ∀ (l : List Pu12), (ptl l).length = l.length * 3
  | [] => rfl
  | x :: l => by rw [ptl_cons, List.length_append, ptl_len l, List.length_cons]; show 3 + _ = _; omega
theorem ptl_at : ∀ {l : List Pu12} {i : Nat} {x : Pu12} (_ : l[i]? = some x), ((ptl l).drop (i * 3)).take 3 = x.cells
  | y :: l, 0, x, h => by
    simp only [List.getElem?_cons_zero, Option.some.injEq] at h
    subst h
    rw [ptl_cons, Nat.zero_mul, List.drop_zero, show 3 = y.cells.length from rfl, List.take_left]
  | y :: l, i + 1, x, h => by
    simp only [List.getElem?_cons_succ] at h
    rw [ptl_cons, show (i + 1) * 3 = y.cells.length + i * 3 by show _ = 3 + _; omega, List.drop_append, List.drop_eq_nil_of_le (by omega), List.nil_append, Nat.add_sub_cancel_left, ptl_at h]
  | [], i, x, h => by simp at h
theorem ptl_at2 {l : List Pu12} {i : Nat} {x : Pu12} (hi : i < l.length) (h : l[i]? = some x) : (ptl l)[i * 3 + 2]? = some (.bool x.fr) := by
  have := congrArg (·[2]?) (ptl_at h)
  simp only [List.getElem?_take, List.getElem?_drop] at this
  simpa [Pu12.cells] using this
/-- What one put does, and the first eight. -/
def lay12 (f : TF) (x : Pu12) : TF := layF (plA x.q) (x.b.take (plN x.q x.b.length)) x.fr f
def laysK (l : List Pu12) (i : Nat) : TF := (l.take i).foldl lay12 tf0
theorem laysK_succ {l : List Pu12} {i : Nat} {x : Pu12} (h : l[i]? = some x) : laysK l (i + 1) = lay12 (laysK l i) x := by
  obtain ⟨hi, rfl⟩ := List.getElem?_eq_some_iff.1 h
  unfold laysK
  rw [List.take_succ_eq_append_getElem hi, List.foldl_append]; rfl
theorem laysK_all {l : List Pu12} {i : Nat} (h : l.length ≤ i) : laysK l i = laysK l l.length := by
  unfold laysK; rw [List.take_of_length_le h, List.take_length]
/-- The book: kinds and bytes. -/
def kdF (f : TF) (a : Nat) : Int := match f a with | none => 0 | some (_, b) => if b then 2 else 1
def bkK (f : TF) : List Int := (List.range 1024).map (kdF f)
def bkB (f : TF) : List Nat := (List.range 1024).map (byF f)
def bkc (f : TF) : List Value := ints (bkK f) ++ bys (bkB f)
theorem bkK_len (f : TF) : (bkK f).length = 1024 := by simp [bkK]
theorem bkB_len (f : TF) : (bkB f).length = 1024 := by simp [bkB]
theorem bkc_len (f : TF) : (bkc f).length = 2048 := by unfold bkc; rw [List.length_append, ints_length, bys_length, bkK_len, bkB_len]
theorem bkK_at {f : TF} {a : Nat} (h : a < 1024) : (bkK f)[a]? = some (kdF f a) := by unfold bkK; rw [List.getElem?_map, List.getElem?_range h]; rfl
theorem bkB_at {f : TF} {a : Nat} (h : a < 1024) : (bkB f)[a]? = some (byF f a) := by unfold bkB; rw [List.getElem?_map, List.getElem?_range h]; rfl
theorem kb_kat {K : List Int} {B : List Nat} {a : Nat} {k : Int} (h : K[a]? = some k) : (ints K ++ bys B)[a]? = some (.int .i64 k) := by
  obtain ⟨ha, _⟩ := List.getElem?_eq_some_iff.1 h
  rw [List.getElem?_append_left (by rw [ints_length]; exact ha)]
  unfold ints; rw [List.getElem?_map, h]; rfl
theorem kb_bat {K : List Int} {B : List Nat} {a x : Nat} (hK : K.length = 1024) (h : B[a]? = some x) : (ints K ++ bys B)[1024 + a]? = some (.int .u8 (x : Nat)) := by
  rw [List.getElem?_append_right (by rw [ints_length]; omega), ints_length, hK, show 1024 + a - 1024 = a by omega]
  unfold bys; rw [List.getElem?_map, h]; rfl
theorem bkc_kat {f : TF} {a : Nat} (h : a < 1024) : (bkc f)[a]? = some (.int .i64 (kdF f a)) := kb_kat (bkK_at h)
theorem bkc_bat {f : TF} {a : Nat} (h : a < 1024) : (bkc f)[1024 + a]? = some (.int .u8 (byF f a : Nat)) := kb_bat (bkK_len f) (bkB_at h)
theorem kb_len {K : List Int} {B : List Nat} : (ints K ++ bys B).length = K.length + B.length := by rw [List.length_append, ints_length, bys_length]
theorem kb_kset {K : List Int} {B : List Nat} {a : Nat} {k : Int} (h : a < K.length) : (ints K ++ bys B).set a (.int .i64 k) = ints (K.set a k) ++ bys B := by
  rw [List.set_append_left _ _ (by rw [ints_length]; exact h)]
  unfold ints; rw [List.map_set]; rfl
theorem kb_bset {K : List Int} {B : List Nat} {a x : Nat} (hK : K.length = 1024) : (ints K ++ bys B).set (1024 + a) (.int .u8 (x : Nat)) = ints K ++ bys (B.set a x) := by
  rw [List.set_append_right _ _ (by rw [ints_length]; omega), ints_length, hK, show 1024 + a - 1024 = a by omega]
  unfold bys; rw [List.map_set]; rfl
theorem bkc_bset {f : TF} {a x : Nat} : (bkc f).set (1024 + a) (.int .u8 (x : Nat)) = ints (bkK f) ++ bys ((bkB f).set a x) := kb_bset (bkK_len f)
theorem kb_cg {K K' : List Int} {B : List Nat} (h : K' = K) : ints K ++ bys B = ints K' ++ bys B := by rw [h]
theorem kb_cs {K : List Int} {p : Nat} {k k' : Int} {B : List Nat} (h : k = k') : ints (K.set p k) ++ bys B = ints (K.set p k') ++ bys B := by rw [h]
theorem map_put {α : Type} {g h : Nat → α} {n p : Nat} (e : ∀ c, c ≠ p → h c = g c) : (List.range n).map h = ((List.range n).map g).set p (h p) := by
  apply List.ext_getElem?
  intro j
  rw [List.getElem?_set, List.length_map, List.length_range]
  by_cases hj : p = j
  · subst hj
    rw [if_pos rfl]
    by_cases hn : p < n
    · rw [if_pos hn, List.getElem?_map, List.getElem?_range hn]; rfl
    · rw [if_neg hn, List.getElem?_eq_none (by simp; omega)]
  · rw [if_neg hj]
    by_cases hn : j < n
    · rw [List.getElem?_map, List.getElem?_map, List.getElem?_range hn]
      show some (h j) = some (g j)
      rw [e j (by omega)]
    · rw [List.getElem?_eq_none (by simp; omega), List.getElem?_eq_none (by simp; omega)]
/-- One byte more. -/
def put1 (f : TF) (p x : Nat) (b : Bool) : TF := fun c => if c = p then some (x, b) else f c
theorem bkc_put (f : TF) (p x : Nat) (b : Bool) : bkc (put1 f p x b) = ints ((bkK f).set p (if b then 2 else 1)) ++ bys ((bkB f).set p x) := by
  have e1 : bkK (put1 f p x b) = (bkK f).set p (if b then 2 else 1) := by
    unfold bkK
    rw [map_put (g := kdF f) (p := p) (fun c hc => by unfold kdF put1; rw [if_neg hc])]
    exact congrArg (List.set _ p) (by unfold kdF put1; rw [if_pos rfl])
  have e2 : bkB (put1 f p x b) = (bkB f).set p x := by
    unfold bkB
    rw [map_put (g := byF f) (p := p) (fun c hc => by unfold byF put1; rw [if_neg hc])]
    exact congrArg (List.set _ p) (by unfold byF put1; rw [if_pos rfl]; rfl)
  unfold bkc; rw [e1, e2]
theorem lay_put {q j x : Nat} {xs : List Nat} {fr : Bool} {f : TF} (hj : j < xs.length) (hx : xs[j]? = some x) : layF q (xs.take (j + 1)) fr f = put1 (layF q (xs.take j) fr f) (q + j) x (((layF q (xs.take j) fr f (q + j)).map (·.2)).getD fr) := by
  obtain ⟨_, hx'⟩ := List.getElem?_eq_some_iff.1 hx
  rw [List.take_succ_eq_append_getElem hj, layF_snoc, hx']
  funext c
  rw [List.length_take, Nat.min_eq_left (by omega)]
  unfold put1
  by_cases hc : c = q + j
  · rw [if_pos hc, if_pos hc, hc]
  · rw [if_neg hc, if_neg hc]
theorem set_id {α : Type} {l : List α} {p : Nat} {k : α} (h : l[p]? = some k) : l.set p k = l := by
  obtain ⟨hp, rfl⟩ := List.getElem?_eq_some_iff.1 h
  exact List.set_getElem_self hp
/-- Behind a byte's turn: it was there. -/
theorem bk_had {q j x : Nat} {xs : List Nat} {fr : Bool} {f : TF} (hj : j < xs.length) (hx : xs[j]? = some x) (hq : q + j < 1024) (h : kdF (layF q (xs.take j) fr f) (q + j) ≠ 0) : ints (bkK (layF q (xs.take j) fr f)) ++ bys ((bkB (layF q (xs.take j) fr f)).set (q + j) x) = bkc (layF q (xs.take (j + 1)) fr f) := by
  rw [lay_put hj hx, bkc_put]
  refine kb_cg (set_id ?_)
  rw [bkK_at hq]
  refine congrArg some ?_
  unfold kdF at *
  generalize layF q (xs.take j) fr f (q + j) = o at *
  cases o with
  | none => exact absurd rfl h
  | some y => rfl
theorem bk_new {q j x : Nat} {xs : List Nat} {fr : Bool} {f : TF} (hj : j < xs.length) (hx : xs[j]? = some x) (h : kdF (layF q (xs.take j) fr f) (q + j) = 0) : ints ((bkK (layF q (xs.take j) fr f)).set (q + j) (if fr then 2 else 1)) ++ bys ((bkB (layF q (xs.take j) fr f)).set (q + j) x) = bkc (layF q (xs.take (j + 1)) fr f) := by
  rw [lay_put hj hx, bkc_put]
  refine kb_cs ?_
  unfold kdF at h
  generalize layF q (xs.take j) fr f (q + j) = o at *
  cases o with
  | none => rfl
  | some y =>
    exfalso
    obtain ⟨y, b⟩ := y
    cases b <;> simp at h
attribute [local irreducible] crk crL crc Sl pt ro Dev imgS recS readS recsF rdW rdO rkT Parts rvl recordsS runsL adrF kcl xcl kys runA runsF layF linR flLs stoL writeT writeS comS clearS extX ovF newS fW fW1 sizedL bkc ptl
set_option maxRecDepth 20000 in
set_option maxHeartbeats 2000000 in
theorem puts12_c {A AA : SP} {bk t p lg d mb n pc : Nat} {pa : Option Addr} {l : List Pu12} {M : MS} {s : DevS} (hA : AA = A * TxA t p lg d mb 128 576 M false s * pt bk (cl (bkc tf0) 35)) (hr : Rs A pa (ptl l)) (hn : l.length = n) (hw : ∀ x ∈ l, PuW A x) (hM : MF M 1024 tf0) (hls : s.ls.length = 16) (ho : s.off = false) :
    Fn Try.prog 6 #[.pointer (some ⟨bk, 0, none⟩), .pointer (some ⟨t, 0, none⟩), .slice pa n pc] (AA) (fun r B => ∃ M2, r = .bool true ∧ MF M2 1024 (laysK l 8) ∧ B = A * TxA t p lg d mb 128 576 M2 false s * pt bk (cl (bkc (laysK l 8)) 35)) := by
  refine fn_enterW (args := [.pointer (some ⟨bk, 0, none⟩), .pointer (some ⟨t, 0, none⟩), .slice pa n pc]) Try.func6 rfl Try.ntmps6 (by simp) ?_
  subst hA
  refine sr ?_; refine tla ?_; refine nq ?_; refine tc_seq ?_; refine sr ?_; refine tla ?_; refine nq ?_; refine tc_block ?_; refine tc_loop (fun kk ρ BB => ∃ (i : Nat) (M1 : MS), (i ≤ 8) ∧ (i ≤ n) ∧ (MF M1 1024 (laysK l i)) ∧ kk = 8 - i ∧ ρ 7 = .int .i64 (i : Nat) ∧ ρ 0 = .pointer (some ⟨bk, 0, none⟩) ∧ ρ 1 = .pointer (some ⟨t, 0, none⟩) ∧ ρ 2 = .slice pa n pc ∧ Dr BB (A * TxA t p lg d mb 128 576 M1 false s * pt bk (cl (bkc (laysK l i)) 35))) (m := 8 - (0)) ?_ ?_
  · exact ⟨0, M, by omega, by omega, hM, rfl, rfl, rfl, rfl, rfl, (by repeat (first | with_reducible exact dr_refl | apply dr_keep | apply dr_drop))⟩
  · intro k ρ B hI
    obtain ⟨i, M1, hp0, hp1, hp2, hkk1, hE7, hE0, hE1, hE2, hBA⟩ := hI
    refine tc_pre hBA.sat ?_
    clear hBA
    refine tc_env (d := 7) hE7 ?_; refine tc_env (d := 0) hE0 ?_; refine tc_env (d := 1) hE1 ?_; refine tc_env (d := 2) hE2 ?_
    clear hE7 hE0 hE1 hE2
    refine tc_seq ?_; refine tc_seq ?_; refine tc_cut (fun ρ BB => ∃ (bb : Bool), (bb = decide (i < n ∧ i < 8)) ∧ ρ 19 = .bool bb ∧ ρ 0 = .pointer (some ⟨bk, 0, none⟩) ∧ ρ 1 = .pointer (some ⟨t, 0, none⟩) ∧ ρ 2 = .slice pa n pc ∧ ρ 7 = .int .i64 (i : Nat) ∧ BB = A * TxA t p lg d mb 128 576 M1 false s * pt bk (cl (bkc (laysK l i)) 35)) ?_ ?_
    · skip
      refine tc_reg ?_; refine tlm ?_; refine tlm ?_; refine tv (o_len Try.underlying23 rfl) ?_; refine tv (o_lss rfl rfl) ?_; refine tlm ?_; refine tl_bool (d := 16) rfl (fun h => ?_) (fun h => ?_)
      · have g16 : (i < n) := by first | exact of_decide_eq_true h | (have h2 := h; simp at h2; omega) | simpa using h
        refine tlm ?_; refine tv (o_lss rfl rfl) ?_; refine tv (o_pick_t rfl (by conv => lhs; whnf)) ?_; refine tl_nil ?_; exact ⟨_, by first | exact (decide_eq_true (by omega)).symm | exact (decide_eq_false (by omega)).symm | (rw [decide_eq_decide]; omega), rfl, rfl, rfl, rfl, rfl, rfl⟩
      · have g16 : ¬ (i < n) := by first | exact of_decide_eq_false h | (have h2 := h; simp at h2; omega) | simpa using h
        refine tk ?_; refine tk ?_; refine tv (o_pick_f rfl (by conv => lhs; whnf)) ?_; refine tl_nil ?_; exact ⟨_, by first | exact (decide_eq_true (by omega)).symm | exact (decide_eq_false (by omega)).symm | (rw [decide_eq_decide]; omega), rfl, rfl, rfl, rfl, rfl, rfl⟩
    · intro ρ B hI
      obtain ⟨bb, hbb0, hE19, hE0, hE1, hE2, hE7, rfl⟩ := hI
      refine q_then_n ?_; refine tc_env (d := 19) hE19 ?_; refine tc_env (d := 0) hE0 ?_; refine tc_env (d := 1) hE1 ?_; refine tc_env (d := 2) hE2 ?_; refine tc_env (d := 7) hE7 ?_
      clear hE19 hE0 hE1 hE2 hE7
      refine tc_cond rfl (fun h => ?_) (fun h => ?_)
      · rw [h] at hbb0
        have hi8 := of_decide_eq_true hbb0.symm
        have hil : i < l.length := by omega
        obtain ⟨x, hx9⟩ : ∃ x, l[i]? = some x := ⟨_, List.getElem?_eq_getElem hil⟩
        have hxw := hw x (List.mem_of_getElem? hx9)
        have hpl := pl_in x.q x.b.length
        have hlk := laysK_succ hx9
        unfold lay12 at hlk
        have hcap := hxw.cap
        obtain ⟨q, hq⟩ : ∃ q, plA x.q = q := ⟨_, rfl⟩
        obtain ⟨m, hm⟩ : ∃ m, plN x.q x.b.length = m := ⟨_, rfl⟩
        rw [hq, hm] at hlk hpl
        obtain ⟨xs, hxs⟩ : ∃ xs, x.b.take m = xs := ⟨_, rfl⟩
        rw [hxs] at hlk
        have hxl : xs.length = m := by rw [← hxs, List.length_take]; omega
        have hxb : ∀ y ∈ xs, y < 256 := fun y hy => hxw.by_ y (List.mem_of_mem_take (hxs ▸ hy))
        have hrs : Rs A x.a (bys xs) := hxs ▸ eq_take hxw.rs
        refine tc_skip ?_; refine q_then_n ?_; refine tc_seq ?_; refine tc_block ?_; refine sr ?_; refine tlm ?_; refine tlm ?_; refine tv (o_ixP (a := pa) Try.underlying23 sz62 rfl rfl (by omega) (nn_rs (xs := ptl l) (by repeat (first | exact hr | apply Rs.left)) (by rw [ptl_len]; omega))) ?_; refine tv (o_ldPN (a := pa) (xs := ptl l) (vs := x.cells) a62 sz62 rfl (by repeat (first | exact hr | apply Rs.left)) (ptl_at hx9) rfl (by decide)) ?_; refine tl_env (d := 26) (v := .agg #[.int .i64 x.q, .slice x.a x.b.length x.c, .bool x.fr]) (rfl) ?_; refine tl_c rfl (o_call bd26 rfl (place12_c (at_ := x.q) (a := x.a) (m := x.b.length) (c := x.c) (fr := x.fr) (hmc := hxw.cap))) ?_; rintro _ _ ⟨rfl, rfl⟩; refine tl_env (d := 27) (v := .tuple #[.int .i64 (q : Nat), .slice x.a m x.c]) (by show Value.tuple #[.int .i64 ((plA x.q : Nat) : Int), .slice x.a (plN x.q x.b.length) x.c] = _; rw [hq, hm]) ?_; refine tlm ?_; refine tv (o_extract rfl rfl) ?_; refine tv (o_extract rfl rfl) ?_; refine tla ?_; refine tla ?_; refine nq ?_; refine sr ?_; refine tla ?_; refine nq ?_; refine tc_seq ?_; refine sr ?_; refine tlm ?_; refine tlm ?_; refine tv (o_ixP (a := pa) Try.underlying23 sz62 rfl rfl (by omega) (nn_rs (xs := ptl l) (by repeat (first | exact hr | apply Rs.left)) (by rw [ptl_len]; omega))) ?_
        refine tv (o_faP (a := pa) (m := 0) (o := 2) Try.underlying62 rfl rfl sz4 rfl (nn_rs (xs := ptl l) (by repeat (first | exact hr | apply Rs.left)) (by rw [ptl_len]; omega))) ?_; refine tv (o_ldP (a := pa) (xs := ptl l) p4 rfl (by repeat (first | exact hr | apply Rs.left)) (ptl_at2 hil hx9)) ?_; refine tl_env (d := 34) (v := .bool x.fr) (rfl) ?_; refine nq ?_; refine tc_cut (fun ρ BB => ∃ (M2 : MS), (MF M2 1024 (layF q xs x.fr (laysK l i))) ∧ ρ 10 = .int .i64 0 ∧ ρ 0 = .pointer (some ⟨bk, 0, none⟩) ∧ ρ 1 = .pointer (some ⟨t, 0, none⟩) ∧ ρ 2 = .slice pa n pc ∧ ρ 7 = .int .i64 (i : Nat) ∧ ρ 8 = .int .i64 (q : Nat) ∧ ρ 9 = .slice x.a m x.c ∧ Dr BB (A * TxA t p lg d mb 128 576 M2 false s * pt bk (cl (bkc (laysK l i)) 35))) ?_ ?_
        · skip
          refine tc_cond rfl (fun h => ?_) (fun h => ?_)
          · have hfr : x.fr = true := by simpa using h
            refine tc_reg ?_; refine tlm ?_; refine tlm ?_; refine tlm ?_; refine tl_c rfl (o_call bd19 rfl (CopyBytes_c (xs := xs) (hr := (by repeat (first | exact hrs | apply Rs.left))) (hm := hxl))) ?_; rintro _ _ ⟨a38, c38, rfl, hc38, rfl⟩; refine tl_c rfl (o_call bd24 rfl (FreshT_c (s := s) (n := 1024) (f := laysK l i) (q := q) (xs := xs) (hM := hp2) (hr := (by repeat (first | with_reducible exact rs_sl | with_reducible exact rs_pt0 | apply Rs.left))) (hm := hxl) (hb := hxb))) ?_; rintro _ _ ⟨M39, rfl, hM39, rfl⟩; refine tla ?_; refine tl_nil ?_; exact ⟨_, by rw [hfr]; exact hM39, rfl, rfl, rfl, rfl, rfl, rfl, rfl, (by repeat (first | with_reducible exact dr_refl | apply dr_keep | apply dr_drop))⟩
          · have hfr : x.fr = false := by simpa using h
            refine tc_reg ?_; refine tlm ?_; refine tlm ?_; refine tlm ?_; refine tl_c rfl (o_call bd19 rfl (CopyBytes_c (xs := xs) (hr := (by repeat (first | exact hrs | apply Rs.left))) (hm := hxl))) ?_; rintro _ _ ⟨a43, c43, rfl, hc43, rfl⟩; refine tl_c rfl (o_call bd23 rfl (StoreT_c (s := s) (n := 1024) (f := laysK l i) (q := q) (xs := xs) (hM := hp2) (hr := (by repeat (first | with_reducible exact rs_sl | with_reducible exact rs_pt0 | apply Rs.left))) (hm := hxl) (hb := hxb))) ?_; rintro _ _ ⟨M39, rfl, hM39, rfl⟩; refine tla ?_; refine tl_nil ?_; exact ⟨_, by rw [hfr]; exact hM39, rfl, rfl, rfl, rfl, rfl, rfl, rfl, (by repeat (first | with_reducible exact dr_refl | apply dr_keep | apply dr_drop))⟩
        · intro ρ B hI
          obtain ⟨M2, hMM0, hE10, hE0, hE1, hE2, hE7, hE8, hE9, hBA⟩ := hI
          refine q_then_n ?_; refine tc_pre hBA.sat ?_
          clear hBA
          refine tc_env (d := 10) hE10 ?_; refine tc_env (d := 0) hE0 ?_; refine tc_env (d := 1) hE1 ?_; refine tc_env (d := 2) hE2 ?_; refine tc_env (d := 7) hE7 ?_; refine tc_env (d := 8) hE8 ?_; refine tc_env (d := 9) hE9 ?_
          clear hE10 hE0 hE1 hE2 hE7 hE8 hE9
          refine tc_seq ?_; refine sr ?_; refine tlm ?_; refine tv (o_nei rfl rfl) ?_; refine nq ?_; refine tc_cond rfl (fun h => ?_) (fun h => ?_)
          · exfalso; simp at h
          · try simp only [lv1, lv2, lv3, lv4, lv5, lv6, Bool.not_true, Bool.not_false] at h
            refine tc_skip ?_; refine q_then_n ?_; refine sr ?_; refine tla ?_; refine nq ?_; refine tc_block ?_; refine tc_loop (fun kk ρ BB => ∃ (j : Nat), (j ≤ m) ∧ kk = m - j ∧ ρ 11 = .int .i64 (j : Nat) ∧ ρ 0 = .pointer (some ⟨bk, 0, none⟩) ∧ ρ 1 = .pointer (some ⟨t, 0, none⟩) ∧ ρ 2 = .slice pa n pc ∧ ρ 7 = .int .i64 (i : Nat) ∧ ρ 8 = .int .i64 (q : Nat) ∧ ρ 9 = .slice x.a m x.c ∧ Dr BB (A * TxA t p lg d mb 128 576 M2 false s * pt bk (cl (bkc (layF q (xs.take j) x.fr (laysK l i))) 35))) (m := m - (0)) ?_ ?_
            · exact ⟨0, by omega, rfl, rfl, rfl, rfl, rfl, rfl, rfl, rfl, by rw [layF_zero]; repeat (first | with_reducible exact dr_refl | apply dr_keep | apply dr_drop)⟩
            · intro k ρ B hI
              obtain ⟨j, hq_0, hkk2, hE11, hE0, hE1, hE2, hE7, hE8, hE9, hBA⟩ := hI
              refine tc_pre hBA.sat ?_
              clear hBA
              refine tc_env (d := 11) hE11 ?_; refine tc_env (d := 0) hE0 ?_; refine tc_env (d := 1) hE1 ?_; refine tc_env (d := 2) hE2 ?_; refine tc_env (d := 7) hE7 ?_; refine tc_env (d := 8) hE8 ?_; refine tc_env (d := 9) hE9 ?_
              clear hE11 hE0 hE1 hE2 hE7 hE8 hE9
              refine tc_seq ?_; refine sr ?_; refine tlm ?_; refine tlm ?_; refine tv (o_len Try.underlying22 rfl) ?_; refine tv (o_lss rfl rfl) ?_; refine nq ?_; refine tc_cond rfl (fun h => ?_) (fun h => ?_)
              · have hj : j < xs.length := by first | omega | (simp at h; omega)
                obtain ⟨y, hy⟩ : ∃ y, xs[j]? = some y := ⟨_, List.getElem?_eq_getElem hj⟩
                have hq9 : q + j < 1024 := by omega
                have hy8 : y < 256 := hxb y (List.mem_of_getElem? hy)
                have hbl := bkc_len (layF q (xs.take j) x.fr (laysK l i))
                refine tc_skip ?_; refine q_then_n ?_; refine tc_seq ?_; refine tc_block ?_; refine tc_seq ?_; refine tc_regh (S := A) mo (by repeat (first | with_reducible exact dr_refl | apply dr_keep | apply dr_drop)) ?_
                show TH _ _ _ _ _ 12 #[ff,ff,ff,ff,ff,ff,ff,ff,ff,ff,ff,ff] _ _
                refine th_take (i := 0) (listed' := #[tt,ff,ff,ff,ff,ff,ff,ff,ff,ff,ff,ff]) rfl (by kernel_rfl) (by kernel_rfl) (by kernel_rfl) rfl rfl (o_move (by conv => lhs; whnf)) ?_; refine th_take (i := 1) (listed' := #[tt,tt,ff,ff,ff,ff,ff,ff,ff,ff,ff,ff]) rfl (by kernel_rfl) (by kernel_rfl) (by kernel_rfl) rfl rfl (o_move (by conv => lhs; whnf)) ?_; refine th_take (i := 2) (listed' := #[tt,tt,tt,ff,ff,ff,ff,ff,ff,ff,ff,ff]) rfl (by kernel_rfl) (by kernel_rfl) (by kernel_rfl) rfl rfl (o_move (by conv => lhs; whnf)) ?_; refine th_take (i := 3) (listed' := #[tt,tt,tt,tt,ff,ff,ff,ff,ff,ff,ff,ff]) rfl (by kernel_rfl) (by kernel_rfl) (by kernel_rfl) rfl rfl (by first | exact o_addI rfl rfl (by omega) | exact o_add rfl rfl) ?_; refine th_take (i := 4) (listed' := #[tt,tt,tt,tt,tt,ff,ff,ff,ff,ff,ff,ff]) rfl (by kernel_rfl) (by kernel_rfl) (by kernel_rfl) rfl rfl (o_move (by conv => lhs; whnf)) ?_; refine th_take (i := 5) (listed' := #[tt,tt,tt,tt,tt,tt,ff,ff,ff,ff,ff,ff]) rfl (by kernel_rfl) (by kernel_rfl) (by kernel_rfl) rfl rfl (o_move (by conv => lhs; whnf)) ?_; refine th_take (i := 6) (listed' := #[tt,tt,tt,tt,tt,tt,tt,ff,ff,ff,ff,ff]) rfl (by kernel_rfl) (by kernel_rfl) (by kernel_rfl) rfl rfl (o_ixP1 (a := x.a) Try.underlying22 sz5 rfl rfl (by omega) (nn_rs (xs := bys xs) (by repeat (first | exact hrs | apply Rs.left)) (by rw [bys_length]; omega))) ?_; refine th_take (i := 7) (listed' := #[tt,tt,tt,tt,tt,tt,tt,tt,ff,ff,ff,ff]) rfl (by kernel_rfl) (by kernel_rfl) (by kernel_rfl) rfl rfl (o_ldP (a := x.a) (xs := bys xs) p5 rfl (by repeat (first | exact hrs | apply Rs.left)) (show (bys xs)[j]? = some (.int .u8 (y : Nat)) by unfold bys; rw [List.getElem?_map, hy]; rfl)) ?_
                refine th_env (d := 60) (v := .int .u8 (y : Nat)) (rfl) ?_; refine th_take (i := 8) (listed' := #[tt,tt,tt,tt,tt,tt,tt,tt,tt,ff,ff,ff]) rfl (by kernel_rfl) (by kernel_rfl) (by kernel_rfl) rfl rfl (o_nilCheck rfl) ?_; refine th_take (i := 9) (listed' := #[tt,tt,tt,tt,tt,tt,tt,tt,tt,tt,ff,ff]) rfl (by kernel_rfl) (by kernel_rfl) (by kernel_rfl) rfl rfl (o_fieldAddr (o := 1024) Try.underlying35 rfl rfl sz33 rfl) ?_; refine th_take (i := 10) (listed' := #[tt,tt,tt,tt,tt,tt,tt,tt,tt,tt,tt,ff]) rfl (by kernel_rfl) (by kernel_rfl) (by kernel_rfl) rfl rfl (o_indexAddrAN1 (j := q + j) Try.underlying33 sz5 rfl rfl hq9) ?_; refine th_one (i := 11) (by kernel_rfl) ?_; refine oh_u (i := 11) (listed' := #[tt,tt,tt,tt,tt,tt,tt,tt,tt,tt,tt,tt]) rfl rfl rfl (o_stU (l' := ints (bkK (layF q (xs.take j) x.fr (laysK l i))) ++ bys ((bkB (layF q (xs.take j) x.fr (laysK l i))).set (q + j) y)) rfl (by repeat (first | with_reducible exact upd_here | with_reducible exact upd_pt | apply upd_left)) sz5 rfl rfl (by show 1024 + (q + j) < _; omega) bkc_bset) (by repeat (first | with_reducible exact dr_refl | apply dr_keep | apply dr_drop)) ?_; refine th_done (by kernel_rfl) ?_; refine q_then_n ?_; refine sr ?_; refine tlm ?_; refine tlm ?_; refine tlm ?_; refine tv (by first | exact o_addI rfl rfl (by omega) | exact o_add rfl rfl) ?_
                refine tv (o_nilCheck rfl) ?_; refine tv (o_fieldAddr (o := 0) Try.underlying35 rfl rfl sz32 rfl) ?_; refine tv (o_indexAddrAN1 (j := q + j) Try.underlying32 sz3 rfl rfl hq9) ?_; refine tl_env (d := 70) (v := .pointer (some ⟨bk, q + j, none⟩)) (by show Value.pointer (some ⟨bk, 0 + 0 + (q + j), none⟩) = _; simp only [Nat.zero_add]) ?_; refine tv (o_load p3 rfl (by repeat (first | with_reducible exact has_here | with_reducible exact has_pt | apply has_left)) (kb_kat (bkK_at hq9))) ?_; refine tv (o_eqi rfl rfl) ?_; refine nq ?_; refine tc_cut (fun ρ BB => ρ 0 = .pointer (some ⟨bk, 0, none⟩) ∧ ρ 1 = .pointer (some ⟨t, 0, none⟩) ∧ ρ 2 = .slice pa n pc ∧ ρ 7 = .int .i64 (i : Nat) ∧ ρ 8 = .int .i64 (q : Nat) ∧ ρ 9 = .slice x.a m x.c ∧ ρ 11 = .int .i64 (j : Nat) ∧ Dr BB (A * TxA t p lg d mb 128 576 M2 false s * pt bk (cl (bkc (layF q (xs.take (j + 1)) x.fr (laysK l i))) 35))) ?_ ?_
                · skip
                  refine tc_cond rfl (fun h => ?_) (fun h => ?_)
                  · have h0 : kdF (layF q (xs.take j) x.fr (laysK l i)) (q + j) = 0 := by first | exact of_decide_eq_true h | simpa using h
                    refine sr ?_; refine tlm ?_; refine tlm ?_; refine tlm ?_; refine tv (by first | exact o_addI rfl rfl (by omega) | exact o_add rfl rfl) ?_; refine tv (o_nilCheck rfl) ?_; refine tv (o_fieldAddr (o := 0) Try.underlying35 rfl rfl sz32 rfl) ?_; refine tv (o_indexAddrAN1 (j := q + j) Try.underlying32 sz3 rfl rfl hq9) ?_; refine tl_env (d := 79) (v := .pointer (some ⟨bk, q + j, none⟩)) (by show Value.pointer (some ⟨bk, 0 + 0 + (q + j), none⟩) = _; simp only [Nat.zero_add]) ?_; refine tl_u rfl (o_stU (l' := ints ((bkK (layF q (xs.take j) x.fr (laysK l i))).set (q + j) 1) ++ bys ((bkB (layF q (xs.take j) x.fr (laysK l i))).set (q + j) y)) rfl (by repeat (first | with_reducible exact upd_here | with_reducible exact upd_pt | apply upd_left)) sz3 rfl rfl (by rw [kb_len, bkK_len]; omega) (kb_kset (K := bkK (layF q (xs.take j) x.fr (laysK l i))) (by rw [bkK_len]; omega))) ?_; refine nq ?_; refine sr ?_; refine tlm ?_; refine tlm ?_; refine tv (o_ixP (a := pa) Try.underlying23 sz62 rfl rfl (by omega) (nn_rs (xs := ptl l) (by repeat (first | exact hr | apply Rs.left)) (by rw [ptl_len]; omega))) ?_
                    refine tv (o_faP (a := pa) (m := 0) (o := 2) Try.underlying62 rfl rfl sz4 rfl (nn_rs (xs := ptl l) (by repeat (first | exact hr | apply Rs.left)) (by rw [ptl_len]; omega))) ?_; refine tv (o_ldP (a := pa) (xs := ptl l) p4 rfl (by repeat (first | exact hr | apply Rs.left)) (ptl_at2 hil hx9)) ?_; refine tl_env (d := 84) (v := .bool x.fr) (rfl) ?_; refine nq ?_; refine tc_cond rfl (fun h => ?_) (fun h => ?_)
                    · have hfr : x.fr = true := by simpa using h
                      refine tc_reg ?_; refine tlm ?_; refine tlm ?_; refine tlm ?_; refine tv (by first | exact o_addI rfl rfl (by omega) | exact o_add rfl rfl) ?_; refine tv (o_nilCheck rfl) ?_; refine tv (o_fieldAddr (o := 0) Try.underlying35 rfl rfl sz32 rfl) ?_; refine tv (o_indexAddrAN1 (j := q + j) Try.underlying32 sz3 rfl rfl hq9) ?_; refine tl_env (d := 91) (v := .pointer (some ⟨bk, q + j, none⟩)) (by show Value.pointer (some ⟨bk, 0 + 0 + (q + j), none⟩) = _; simp only [Nat.zero_add]) ?_; refine tl_u rfl (o_stU (l' := ints ((bkK (layF q (xs.take j) x.fr (laysK l i))).set (q + j) 2) ++ bys ((bkB (layF q (xs.take j) x.fr (laysK l i))).set (q + j) y)) rfl (by repeat (first | with_reducible exact upd_here | with_reducible exact upd_pt | apply upd_left)) sz3 rfl rfl (by rw [kb_len, List.length_set, bkK_len]; omega) ((kb_kset (K := (bkK (layF q (xs.take j) x.fr (laysK l i))).set (q + j) 1) (k := 2) (by rw [List.length_set, bkK_len]; omega)).trans (by rw [List.set_set]))) ?_; refine tl_nil ?_; exact ⟨rfl, rfl, rfl, rfl, rfl, rfl, rfl, by first | (rw [← bk_had hj hy hq9 h0]; repeat (first | with_reducible exact dr_refl | apply dr_keep | apply dr_drop); done) | (rw [← bk_new hj hy h0, if_pos hfr]; repeat (first | with_reducible exact dr_refl | apply dr_keep | apply dr_drop); done) | (rw [← bk_new hj hy h0, if_neg hfr]; repeat (first | with_reducible exact dr_refl | apply dr_keep | apply dr_drop); done)⟩
                    · have hfr : ¬ x.fr = true := by simpa using h
                      refine tc_skip ?_; exact ⟨rfl, rfl, rfl, rfl, rfl, rfl, rfl, by first | (rw [← bk_had hj hy hq9 h0]; repeat (first | with_reducible exact dr_refl | apply dr_keep | apply dr_drop); done) | (rw [← bk_new hj hy h0, if_pos hfr]; repeat (first | with_reducible exact dr_refl | apply dr_keep | apply dr_drop); done) | (rw [← bk_new hj hy h0, if_neg hfr]; repeat (first | with_reducible exact dr_refl | apply dr_keep | apply dr_drop); done)⟩
                  · have h0 : kdF (layF q (xs.take j) x.fr (laysK l i)) (q + j) ≠ 0 := by first | exact of_decide_eq_false h | simpa using h
                    refine tc_skip ?_; exact ⟨rfl, rfl, rfl, rfl, rfl, rfl, rfl, by first | (rw [← bk_had hj hy hq9 h0]; repeat (first | with_reducible exact dr_refl | apply dr_keep | apply dr_drop); done) | (rw [← bk_new hj hy h0, if_pos hfr]; repeat (first | with_reducible exact dr_refl | apply dr_keep | apply dr_drop); done) | (rw [← bk_new hj hy h0, if_neg hfr]; repeat (first | with_reducible exact dr_refl | apply dr_keep | apply dr_drop); done)⟩
                · intro ρ B hI
                  obtain ⟨hE0, hE1, hE2, hE7, hE8, hE9, hE11, hBA⟩ := hI
                  refine q_block_n (q_then_n ?_); refine tc_pre hBA.sat ?_
                  clear hBA
                  refine tc_env (d := 0) hE0 ?_; refine tc_env (d := 1) hE1 ?_; refine tc_env (d := 2) hE2 ?_; refine tc_env (d := 7) hE7 ?_; refine tc_env (d := 8) hE8 ?_; refine tc_env (d := 9) hE9 ?_; refine tc_env (d := 11) hE11 ?_
                  clear hE0 hE1 hE2 hE7 hE8 hE9 hE11
                  refine tc_reg ?_; refine tlm ?_; refine tv (by first | exact o_addI rfl rfl (by omega) | exact o_add rfl rfl) ?_; refine tla ?_; refine nq ?_; exact ⟨_, by omega, j + 1, by omega, rfl, rfl, rfl, rfl, rfl, rfl, rfl, rfl, (by repeat (first | with_reducible exact dr_refl | apply dr_keep | apply dr_drop))⟩
              · obtain rfl : j = m := by first | omega | (simp at h; omega)
                have hlk2 : laysK l (i + 1) = (layF q (xs.take j) x.fr (laysK l i)) := by rw [hlk, List.take_of_length_le (by omega)]
                refine tc_exit ?_; refine q_then_e (q_then_e (q_block_x (q_block_n (q_then_n ?_)))); refine tc_reg ?_; refine tlm ?_; refine tv (by first | exact o_addI rfl rfl (by omega) | exact o_add rfl rfl) ?_; refine tla ?_; refine nq ?_; exact ⟨_, by omega, i + 1, _, by omega, by omega, by rw [hlk]; exact hMM0, rfl, rfl, rfl, rfl, rfl, by rw [hlk2]; repeat (first | with_reducible exact dr_refl | apply dr_keep | apply dr_drop)⟩
      · rw [h] at hbb0
        have hi8 := of_decide_eq_false hbb0.symm
        have hlk : laysK l 8 = laysK l i := by
          rcases Nat.lt_or_ge i 8 with h8 | h8
          · rw [laysK_all (i := 8) (by omega), laysK_all (i := i) (by omega)]
          · rw [show i = 8 by omega]
        refine tc_exit ?_; refine q_then_e (q_then_e (q_block_x (q_then_n ?_))); refine sr ?_; refine tla ?_; refine nq ?_; refine tc_ret ?_
        rw [hlk]
        exact ⟨.bool true, _, res1 rfl rfl, Dr.sat (by repeat (first | with_reducible exact dr_refl | apply dr_keep | apply dr_drop)), M1, rfl, hp2, rfl⟩
end Go.Vl

namespace Go.Vl
open Go Go.Proofs
structure RunQ (f : TF) (k : Bool) (l : List Nat) (out : List (Nat × List Nat)) : Prop where
  pos : ∀ r ∈ out, 1 ≤ r.2.length
  top : ∀ r ∈ out, ∃ x ∈ l, r.1 + r.2.length = x + 1
  gap : out.Pairwise fun r s => r.1 + r.2.length < s.1
  kind : ∀ r ∈ out, ∀ j, j < r.2.length → isK f k (r.1 + j) = true ∧ r.2[j]? = some (byF f (r.1 + j))
  cov : ∀ x ∈ l, ∃ r ∈ out, r.1 ≤ x ∧ x < r.1 + r.2.length
theorem runQ_step {f : TF} {k : Bool} {l : List Nat} {out : List (Nat × List Nat)} {a : Nat} (h : RunQ f k l out) (ha : isK f k a = true) (hl : ∀ x ∈ l, x < a) : RunQ f k (l ++ [a]) (runA f out a) := by
  cases hj : adjB out a with
  | true =>
    obtain ⟨O, r, rfl, hadj, hrun⟩ := adj_t (f := f) hj
    rw [hrun]
    have hp := List.pairwise_append.1 h.gap
    refine ⟨fun z hz => ?_, fun z hz => ?_, List.pairwise_append.2 ⟨hp.1, List.pairwise_singleton _ _, fun x hx y hy => ?_⟩, fun z hz j hjl => ?_, fun x hx => ?_⟩
    · rcases List.mem_append.1 hz with h1 | h1
      · exact h.pos z (List.mem_append_left _ h1)
      · rw [List.mem_singleton.1 h1]; simp
    · rcases List.mem_append.1 hz with h1 | h1
      · obtain ⟨x, hx, e⟩ := h.top z (List.mem_append_left _ h1)
        exact ⟨x, List.mem_append_left _ hx, e⟩
      · rw [List.mem_singleton.1 h1]
        exact ⟨a, by simp, by simp only [List.length_append, List.length_singleton]; omega⟩
    · rw [List.mem_singleton.1 hy]
      exact hp.2.2 x hx r (List.mem_singleton.2 rfl)
    · rcases List.mem_append.1 hz with h1 | h1
      · exact h.kind z (List.mem_append_left _ h1) j hjl
      · rw [List.mem_singleton.1 h1] at hjl ⊢
        simp only [List.length_append, List.length_singleton] at hjl ⊢
        by_cases hjr : j < r.2.length
        · obtain ⟨g1, g2⟩ := h.kind r (by simp) j hjr
          exact ⟨g1, by rw [List.getElem?_append_left hjr]; exact g2⟩
        · obtain rfl : j = r.2.length := by omega
          rw [hadj]
          exact ⟨ha, by rw [List.getElem?_append_right (Nat.le_refl _), Nat.sub_self]; rfl⟩
    · rcases List.mem_append.1 hx with h1 | h1
      · obtain ⟨z, hz, g1, g2⟩ := h.cov x h1
        rcases List.mem_append.1 hz with h2 | h2
        · exact ⟨z, List.mem_append_left _ h2, g1, g2⟩
        · rw [List.mem_singleton.1 h2] at g1 g2
          exact ⟨_, List.mem_append_right _ (List.mem_singleton.2 rfl), g1, by simp only [List.length_append, List.length_singleton]; omega⟩
      · rw [List.mem_singleton.1 h1]
        have := h.pos r (by simp)
        exact ⟨_, List.mem_append_right _ (List.mem_singleton.2 rfl), by simp only []; omega, by simp only [List.length_append, List.length_singleton]; omega⟩
  | false =>
    rw [adj_f hj]
    have hlt : ∀ z ∈ out, z.1 + z.2.length < a := fun z hz => by
      rcases Nat.eq_zero_or_pos out.length with h0 | h0
      · rw [List.eq_nil_of_length_eq_zero h0] at hz; cases hz
      · obtain ⟨O, r, rfl⟩ := list_snoc h0
        rw [adjB_snoc] at hj
        have hne := of_decide_eq_false hj
        obtain ⟨x, hx, e⟩ := h.top r (by simp)
        have hxa := hl x hx
        rcases List.mem_append.1 hz with h1 | h1
        · have := (List.pairwise_append.1 h.gap).2.2 z h1 r (List.mem_singleton.2 rfl)
          omega
        · rw [List.mem_singleton.1 h1]; omega
    refine ⟨fun z hz => ?_, fun z hz => ?_, List.pairwise_append.2 ⟨h.gap, List.pairwise_singleton _ _, fun x hx y hy => ?_⟩, fun z hz j hjl => ?_, fun x hx => ?_⟩
    · rcases List.mem_append.1 hz with h1 | h1
      · exact h.pos z h1
      · rw [List.mem_singleton.1 h1]; simp
    · rcases List.mem_append.1 hz with h1 | h1
      · obtain ⟨x, hx, e⟩ := h.top z h1
        exact ⟨x, List.mem_append_left _ hx, e⟩
      · rw [List.mem_singleton.1 h1]; exact ⟨a, by simp, rfl⟩
    · rw [List.mem_singleton.1 hy]; exact hlt x hx
    · rcases List.mem_append.1 hz with h1 | h1
      · exact h.kind z h1 j hjl
      · rw [List.mem_singleton.1 h1] at hjl ⊢
        simp only [List.length_singleton] at hjl
        obtain rfl : j = 0 := by omega
        exact ⟨ha, rfl⟩
    · rcases List.mem_append.1 hx with h1 | h1
      · obtain ⟨z, hz, g1, g2⟩ := h.cov x h1
        exact ⟨z, List.mem_append_left _ hz, g1, g2⟩
      · rw [List.mem_singleton.1 h1]
        exact ⟨_, List.mem_append_right _ (List.mem_singleton.2 rfl), Nat.le_refl _, by show a < a + 1; omega⟩
theorem runQ_all {n : Nat} {k : Bool} {f : TF} : ∀ i, i ≤ (adrF n k f).length → RunQ f k ((adrF n k f).take i) (runsL f ((adrF n k f).take i))
  | 0, _ => by
    rw [List.take_zero]
    exact ⟨fun r h => (by cases h), fun r h => (by cases h), List.Pairwise.nil, fun r h => (by cases h), fun r h => (by cases h)⟩
  | i + 1, h => by
    have ih := runQ_all (n := n) (k := k) (f := f) i (by omega)
    rw [runs_next rfl (by omega), List.take_succ_eq_append_getElem (by omega)]
    refine runQ_step ih ?_ fun x hx => ?_
    · exact (adr_mem.1 (List.getElem_mem (by omega))).2
    · obtain ⟨j, hj, rfl⟩ := List.mem_iff_getElem.1 hx
      rw [List.length_take] at hj
      rw [List.getElem_take]
      exact List.pairwise_iff_getElem.1 (adr_sorted n k f) j i (by omega) (by omega) (by omega)
theorem runQ_F (n : Nat) (k : Bool) (f : TF) : RunQ f k (adrF n k f) (runsF n k f) := by
  have := runQ_all (n := n) (k := k) (f := f) _ (Nat.le_refl _)
  rw [List.take_length] at this
  unfold runsF; exact this
theorem adr_succ (i : Nat) (k : Bool) (f : TF) : adrF (i + 1) k f = adrF i k f ++ if isK f k i then [i] else [] := by
  unfold adrF; rw [List.range_succ, List.filter_append]
  by_cases h : isK f k i = true
  · rw [if_pos h, List.filter_cons_of_pos h]; rfl
  · rw [if_neg h, List.filter_cons_of_neg h]; rfl
theorem adr_cnt (i : Nat) (k : Bool) (f : TF) : (adrF (i + 1) k f).length = (adrF i k f).length + if isK f k i then 1 else 0 := by
  rw [adr_succ, List.length_append]; split <;> rfl
theorem adr_zero (k : Bool) (f : TF) : adrF 0 k f = [] := rfl
theorem kd_one {f : TF} {a : Nat} : kdF f a = 1 ↔ isK f false a = true := by
  unfold kdF isK
  cases f a with
  | none => simp
  | some c => obtain ⟨x, b⟩ := c; cases b <;> simp
theorem kd_nn (f : TF) (a : Nat) : 0 ≤ kdF f a ∧ kdF f a ≤ 2 := by
  unfold kdF
  cases f a with
  | none => simp
  | some c => obtain ⟨x, b⟩ := c; cases b <;> simp
theorem sumL_nil : sumL [] = 0 := rfl
theorem sumL_take {L : List (Nat × List Nat)} {i : Nat} (h : i < L.length) : sumL (L.take (i + 1)) = sumL (L.take i) + (L.getD i (0, [])).2.length := by
  have e : L.getD i (0, []) = L[i] := by rw [List.getD_eq_getElem?_getD, List.getElem?_eq_getElem h]; rfl
  rw [List.take_succ_eq_append_getElem h, e]; unfold sumL; rw [List.map_append, List.sum_append]; simp
theorem sumL_le (L : List (Nat × List Nat)) (i : Nat) : sumL (L.take i) ≤ sumL L := by
  have := sumL_app (L.take i) (L.drop i)
  rw [List.take_append_drop] at this
  omega
theorem getDr_mem {L : List (Nat × List Nat)} {i : Nat} (h : i < L.length) : L.getD i (0, []) ∈ L := by
  have e : L.getD i (0, []) = L[i] := by rw [List.getD_eq_getElem?_getD, List.getElem?_eq_getElem h]; rfl
  rw [e]; exact List.getElem_mem h
theorem gap_at {f : TF} {k : Bool} {l : List Nat} {L : List (Nat × List Nat)} {i : Nat} (h : RunQ f k l L) (h1 : i + 1 < L.length) : (L.getD i (0, [])).1 + (L.getD i (0, [])).2.length < (L.getD (i + 1) (0, [])).1 := by
  have e : ∀ j (hj : j < L.length), L.getD j (0, []) = L[j] := fun j hj => by rw [List.getD_eq_getElem?_getD, List.getElem?_eq_getElem hj]; rfl
  rw [e i (by omega), e (i + 1) h1]
  exact List.pairwise_iff_getElem.1 h.gap i (i + 1) (by omega) h1 (by omega)
theorem ov_at {f : TF} {q i x : Nat} {xs : List Nat} (h : xs[i]? = some x) : (ovF f q xs)[i]? = some (if kdF f (q + i) = 0 then x else byF f (q + i)) := by
  unfold ovF
  rw [List.getElem?_mapIdx, h]
  simp only [Option.map_some]
  unfold byF kdF
  cases f (q + i) with
  | none => rfl
  | some c => obtain ⟨y, b⟩ := c; cases b <;> rfl
theorem ext_at0 {L : List (Nat × List Nat)} {i : Nat} (h : i < L.length) : (xcl (extX L))[i * 2 + 0]? = some (.int .i64 (((L.getD i (0, [])).1 : Nat) : Int)) := by
  have e : L.getD i (0, []) = L[i] := by rw [List.getD_eq_getElem?_getD, List.getElem?_eq_getElem h]; rfl
  rw [e]
  have := xcl_at0 (l := extX L) (j := i) (by rw [ext_len]; exact h)
  rw [this]; unfold extX; simp
theorem ext_at1 {L : List (Nat × List Nat)} {i : Nat} (h : i < L.length) : (xcl (extX L))[i * 2 + 1]? = some (.int .i64 (((L.getD i (0, [])).2.length : Nat) : Int)) := by
  have e : L.getD i (0, []) = L[i] := by rw [List.getD_eq_getElem?_getD, List.getElem?_eq_getElem h]; rfl
  rw [e]
  have := xcl_at1 (l := extX L) (j := i) (by rw [ext_len]; exact h)
  rw [this]; unfold extX; simp
end Go.Vl
