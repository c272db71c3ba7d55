/- What the row rests on, part 3: a calculus of assertions, walks of functions over it, and plain laws. Conditions: none. -/
import Derived.Deep.QuietTactic
import Derived.BigQuiet
import Derived.WalkKit
import Derived.Test.YtnkeepjpkdjcdaaProg
import Derived.OrdersHeld
import Derived.Laws.BytesArg
import Derived.Lib.Builder
import Derived.Lib.UnsafeStr
import Derived.RangeFuncRecord
import Derived.TacticsIn
import Derived.Deep.Slices
import Derived.OpenShut
import Derived.ChangeArms
import Derived.SizedLaws
import Derived.ChangeSame
import Derived.Test.YtnkeepjpkdjcdaaRows
import Derived.Test.YtnkeepjpkdjcdaaMg2
set_option linter.unusedVariables false
set_option linter.unusedSimpArgs false
namespace Go.Vl
open Go Go.Proofs
abbrev ub {H : Type} (d : DataW H) : Nat := Go.Proofs.Ytnkeepjpkdjcdaa.Rows.uptoBulk d
abbrev ubs {H : Type} (l : List (DataW H)) : Nat := Go.Proofs.Ytnkeepjpkdjcdaa.Rows.uptoBulkAll l
/-- Whatever lies there as a value of type t, by the argument's own reading, r holds of, and of how much. -/
def Rdu {α : Type} (P : Program) (W : World) (t : TypeId) (r : List Value → α → Prop) (sz : α → Nat) : Prop :=
  ∀ (H : Type) (enc : TypeId × Value → H) (spare : Nat → Bool) (held : Bool) (fuel : Nat) (cs : List Value) (d : DataW H) (pl : List MemPlace),
    DataW.trod enc P W 0 spare held fuel t cs = some (d, pl) → ∃ x, r cs x ∧ sz x ≤ ub d
theorem Rdu.mono {α β : Type} {P : Program} {W : World} {t : TypeId} {r : List Value → α → Prop} {s : α → Nat} {q : List Value → β → Prop} {z : β → Nat} (h : Rdu P W t r s) (k : ∀ cs x, r cs x → ∃ y, q cs y ∧ z y ≤ s x) : Rdu P W t q z :=
  fun H enc sp hd fu cs d pl h1 => by
    obtain ⟨x, hx, hs⟩ := h H enc sp hd fu cs d pl h1
    obtain ⟨y, hy, hz⟩ := k cs x hx
    exact ⟨y, hy, by omega⟩
/-- A slice: its elements' cells, and what each is. -/
def PSu {α : Type} (A : SP) (k : Nat) (r : List Value → α → Prop) (cs : List Value) (xs : List α) : Prop :=
  ∃ (a : Option Addr) (cap : Nat) (Cs : List (List Value)), cs = [.slice a xs.length cap] ∧ xs.length ≤ cap ∧ Cs.length = xs.length ∧ (∀ i (h : i < xs.length) (h' : i < Cs.length), Cs[i].length = k ∧ r Cs[i] xs[i]) ∧ Rs A a Cs.flatten
def szL {α : Type} (sz : α → Nat) (xs : List α) : Nat := (xs.map sz).sum + 1
/-- Bytes. -/
def PByU (A : SP) (cs : List Value) (xs : List Nat) : Prop := ∃ a cap, cs = [.slice a xs.length cap] ∧ xs.length ≤ cap ∧ Rs A a (bys xs) ∧ ∀ x ∈ xs, x < 256
def PInU (A : SP) (cs : List Value) (xs : List Int) : Prop := ∃ a cap, cs = [.slice a xs.length cap] ∧ xs.length ≤ cap ∧ Rs A a (ints xs) ∧ ∀ x ∈ xs, -9223372036854775808 ≤ x ∧ x ≤ 9223372036854775807
end Go.Vl

set_option linter.unusedVariables false
set_option linter.unusedSimpArgs false
namespace Go.Vl
open Go Go.Proofs
theorem Setw {A : SP} {a : Option Addr} {c n : Nat} {l : List Mk} {X : List Mk} {er : Int} {m : Mk} (hX : setS l m = (X, er)) (hr : Rs A a (mcs l) := by repeat (first | with_reducible exact rs_sl | assumption | apply Rs.left)) (hm : l.length = n := by first | assumption | rfl)  (hs : n ≤ 1125899906842 := by omega) : Fn Try.prog 21 #[.slice a n c, .agg m.cells.toArray] A (fun r B => ∃ a2 c2, r = .tuple #[.slice a2 X.length c2, .int .i64 er] ∧ X.length ≤ c2 ∧ B = A * Sl 3 (.slice a2 X.length c2) X.length (mcs X)) := by
  have h := Set_c (A := A) (a := a) (c := c) (l := l) (m := m) hr hm hs
  rw [hX] at h
  exact h
theorem Shiftw {A : SP} {a : Option Addr} {c n : Nat} {l : List Mk} {X : List Mk} {er : Int} {e : Ed} (hX : shiftS l e = (X, er)) (hr : Rs A a (mcs l) := by repeat (first | with_reducible exact rs_sl | assumption | apply Rs.left)) (hm : l.length = n := by first | assumption | rfl) (hW : ∀ x ∈ l, MkW x := by assumption) (hE : EdW e := by assumption) (hs : n ≤ 1125899906842 := by omega) : Fn Try.prog 12 #[.slice a n c, .agg e.cells.toArray] A (fun r B => ∃ a2 c2, r = .tuple #[.slice a2 X.length c2, .int .i64 er] ∧ X.length ≤ c2 ∧ B = A * Sl 3 (.slice a2 X.length c2) X.length (mcs X)) := by
  have h := Shift_c (A := A) (a := a) (c := c) (l := l) (e := e) hr hm hW hE hs
  rw [hX] at h
  exact h
def rm40 (i : Nat) : List Mk := (List.range i).map fun j => ⟨99, (j : Nat), 7⟩
attribute [local irreducible] Sl pt ro SlB
theorem setW1 : setS [⟨3, 3, 1⟩] ⟨2, 3, 0⟩ = ([⟨2, 3, 0⟩, ⟨3, 3, 1⟩], 0) := by
  simp [setS, mayS, okM, outM, srt, mg_cons, mg_nil_l, mg_nil_r, ltc, cId]
theorem shiftW1 : shiftS [⟨2, 3, 0⟩, ⟨3, 3, 1⟩] ⟨3, 0, 2⟩ = ([⟨2, 3, 0⟩, ⟨3, 5, 1⟩], 0) := by
  simp [shiftS, mayS, okM, edMay, gnM, goneS, mvM, srt, mg_cons, mg_nil_l, mg_nil_r, ltc, cId]
theorem mayW1 : mayS [⟨2, 3, 0⟩, ⟨3, 5, 1⟩] = 0 := by simp [mayS, okM]
theorem checkW1 : checkS [⟨2, 3, 0⟩, ⟨3, 5, 1⟩] 5 = 0 := by simp [checkS, mayS, okM]
theorem checkW2 : checkS [⟨2, 3, 0⟩, ⟨3, 5, 1⟩] 4 = 190 := by simp [checkS, mayS, okM]
theorem packW1 : (packS [⟨2, 3, 0⟩, ⟨3, 5, 1⟩]).2 = 0 := by unfold packS; rw [mayW1]; rfl
theorem packW2 : (packS [⟨2, 3, 0⟩, ⟨3, 5, 1⟩]).1.size = 32 := by
  unfold packS; rw [mayW1, if_neg (by decide)]
  show (sob _).size = 32
  simp [sob, ByteArray.size, pkS_len, srt_length cId_swo]
set_option maxRecDepth 20000 in
set_option maxHeartbeats 2000000 in
theorem worksM_c {A : SP} :
    Fn Try.prog 15 #[] (A) (fun r B => r = .bool true ∧ A = B) := by
  refine fn_enterW (args := []) Try.func15 rfl Try.ntmps15 (by simp) ?_; refine sr ?_; refine tla ?_; refine nq ?_; refine sr ?_; refine tv (o_bS (l := [_, _, _]) (pv_cons (by conv => lhs; whnf) (pv_cons (by conv => lhs; whnf) (pv_cons (by conv => lhs; whnf) pv_nil))) Try.underlying35 z35 (pl35 Try.underlying35) rfl) ?_; refine tl_x rfl (o_buildSliceK (k := 3) (l := (Mk.mk 3 3 1).cells) Try.underlying22 sz35 z35 rfl rfl (by decide)) ?_; rintro _ _ ⟨b9, rfl, rfl⟩; refine tv (o_bS (l := [_, _, _]) (pv_cons (by conv => lhs; whnf) (pv_cons (by conv => lhs; whnf) pv_nil)) Try.underlying35 z35 (pl35 Try.underlying35) rfl) ?_; refine tl_c rfl (o_call bd21 rfl (Setw (l := [⟨3, 3, 1⟩]) (m := ⟨2, 3, 0⟩) (n := 1) setW1 (hr := (show Rs _ _ (Mk.mk 3 3 1).cells from rs_pt rfl)))) ?_; rintro _ _ ⟨a11, c11, rfl, hc11, rfl⟩; refine tlm ?_; refine tv (o_extract rfl rfl) ?_; refine tv (o_extract rfl rfl) ?_; refine tla ?_; refine tla ?_; refine nq ?_; refine sr ?_; refine tlm ?_; refine tv (o_bS (l := [_, _, _]) (pv_cons (by conv => lhs; whnf) (pv_cons (by conv => lhs; whnf) pv_nil)) Try.underlying24 z24 (pl24 Try.underlying24) rfl) ?_; refine tl_c rfl (o_call bd12 rfl (Shiftw (l := [⟨2, 3, 0⟩, ⟨3, 3, 1⟩]) (e := ⟨3, 0, 2⟩) (n := 2) shiftW1 (hW := by intro x hx; simp at hx; rcases hx with rfl | rfl <;> exact ⟨by decide, by decide, by decide⟩) (hE := ⟨by decide, by decide, by decide⟩))) ?_
  rintro _ _ ⟨a17, c17, rfl, hc17, rfl⟩; refine tlm ?_; refine tv (o_extract rfl rfl) ?_; refine tv (o_extract rfl rfl) ?_; refine tla ?_; refine tla ?_; refine nq ?_; refine sr ?_; refine tlm ?_; refine tl_c rfl (o_call bd27 rfl (Pack_c (l := [⟨2, 3, 0⟩, ⟨3, 5, 1⟩]) (n := 2) (hW := by intro x hx; simp at hx; rcases hx with rfl | rfl <;> exact ⟨by decide, by decide, by decide⟩))) ?_; rintro _ _ ⟨rfl, rfl⟩; refine tlm ?_; refine tv (o_extract rfl rfl) ?_; refine tv (o_extract rfl rfl) ?_; refine tl_env (d := 24) (v := .int .i64 0) (by show Value.int .i64 _ = _; rw [packW1]) ?_; refine tla ?_; refine tla ?_; refine nq ?_; refine sr ?_; refine tlm ?_; refine tv (o_eqi rfl rfl) ?_; refine tlm ?_; refine tl_bool (d := 27) rfl (fun h => ?_) (fun h => ?_)
  · try simp only [lv1, lv2, lv3, lv4, lv5, lv6, Bool.not_true, Bool.not_false] at h
    refine tlm ?_; refine tv (o_eqi rfl rfl) ?_; refine tv (o_pick_t rfl (by conv => lhs; whnf)) ?_; refine tlm ?_; refine tl_bool (d := 31) rfl (fun h => ?_) (fun h => ?_)
    · try simp only [lv1, lv2, lv3, lv4, lv5, lv6, Bool.not_true, Bool.not_false] at h
      refine tlm ?_; refine tv (o_eqi rfl rfl) ?_; refine tv (o_pick_t rfl (by conv => lhs; whnf)) ?_; refine tlm ?_; refine tl_bool (d := 35) rfl (fun h => ?_) (fun h => ?_)
      · try simp only [lv1, lv2, lv3, lv4, lv5, lv6, Bool.not_true, Bool.not_false] at h
        refine tlm ?_; refine tv (o_len Try.underlying22 rfl) ?_; refine tv (o_eqi rfl rfl) ?_; refine tv (o_pick_t rfl (by conv => lhs; whnf)) ?_; refine tlm ?_; refine tl_bool (d := 40) rfl (fun h => ?_) (fun h => ?_)
        · try simp only [lv1, lv2, lv3, lv4, lv5, lv6, Bool.not_true, Bool.not_false] at h
          refine tlm ?_; refine tv (o_ixP Try.underlying22 sz35 rfl rfl (by decide) (by repeat (first | exact nn_sl (by decide) | apply Nn.left))) ?_; refine tv (o_ldPN (vs := (Mk.mk 2 3 0).cells) a35 sz35 rfl (by repeat (first | with_reducible exact rs_sl | apply Rs.left)) rfl rfl (by decide)) ?_; refine tv (o_bS (l := [_, _, _]) (pv_cons (by conv => lhs; whnf) (pv_cons (by conv => lhs; whnf) pv_nil)) Try.underlying35 z35 (pl35 Try.underlying35) rfl) ?_; refine tv (o_eqMk (a := ⟨2, 3, 0⟩) (b := ⟨2, 3, 0⟩) rfl rfl) ?_; refine tv (o_pick_t rfl (by conv => lhs; whnf)) ?_; refine tlm ?_; refine tl_bool (d := 47) rfl (fun h => ?_) (fun h => ?_)
          · try simp only [lv1, lv2, lv3, lv4, lv5, lv6, Bool.not_true, Bool.not_false] at h
            refine tlm ?_; refine tv (o_ixP Try.underlying22 sz35 rfl rfl (by decide) (by repeat (first | exact nn_sl (by decide) | apply Nn.left))) ?_; refine tv (o_ldPN (vs := (Mk.mk 3 5 1).cells) a35 sz35 rfl (by repeat (first | with_reducible exact rs_sl | apply Rs.left)) rfl rfl (by decide)) ?_; refine tv (o_bS (l := [_, _, _]) (pv_cons (by conv => lhs; whnf) (pv_cons (by conv => lhs; whnf) (pv_cons (by conv => lhs; whnf) pv_nil))) Try.underlying35 z35 (pl35 Try.underlying35) rfl) ?_; refine tv (o_eqMk (a := ⟨3, 5, 1⟩) (b := ⟨3, 5, 1⟩) rfl rfl) ?_; refine tv (o_pick_t rfl (by conv => lhs; whnf)) ?_; refine tlm ?_; refine tl_bool (d := 54) rfl (fun h => ?_) (fun h => ?_)
            · try simp only [lv1, lv2, lv3, lv4, lv5, lv6, Bool.not_true, Bool.not_false] at h
              refine tlm ?_; refine tv (o_lenS Try.underlying9 rfl) ?_; refine tl_env (d := 56) (v := .int .i64 ((32 : Nat) : Int)) (by show Value.int .i64 ((ByteArray.size _ : Nat) : Int) = _; rw [packW2]) ?_; refine tv (o_eqi rfl rfl) ?_; refine tv (o_pick_t rfl (by conv => lhs; whnf)) ?_; refine tlm ?_; refine tl_bool (d := 59) rfl (fun h => ?_) (fun h => ?_)
              · try simp only [lv1, lv2, lv3, lv4, lv5, lv6, Bool.not_true, Bool.not_false] at h
                refine tlm ?_; refine tl_c rfl (o_call bd18 rfl (Check_c (l := [⟨2, 3, 0⟩, ⟨3, 5, 1⟩]) (n := 2) (z := 5))) ?_; rintro _ _ ⟨rfl, rfl⟩; refine tl_env (d := 61) (v := .int .i64 0) (by show Value.int .i64 _ = _; rw [checkW1]) ?_; refine tv (o_eqi rfl rfl) ?_; refine tv (o_pick_t rfl (by conv => lhs; whnf)) ?_; refine tlm ?_; refine tl_bool (d := 64) rfl (fun h => ?_) (fun h => ?_)
                · try simp only [lv1, lv2, lv3, lv4, lv5, lv6, Bool.not_true, Bool.not_false] at h
                  refine tlm ?_; refine tl_c rfl (o_call bd18 rfl (Check_c (l := [⟨2, 3, 0⟩, ⟨3, 5, 1⟩]) (n := 2) (z := 4))) ?_; rintro _ _ ⟨rfl, rfl⟩; refine tl_env (d := 66) (v := .int .i64 190) (by show Value.int .i64 _ = _; rw [checkW2]) ?_; refine tv (o_eqi rfl rfl) ?_; refine tv (o_pick_t rfl (by conv => lhs; whnf)) ?_; refine tla ?_; refine nq ?_; refine tc_ret ?_; refine ⟨.bool true, _, res1 rfl rfl, ?_, rfl, rfl⟩; exact Dr.sat (by repeat (first | with_reducible exact dr_refl | apply dr_keep | apply dr_drop))
                · exfalso; simp at h
              · exfalso; simp at h
            · exfalso; simp at h
          · exfalso; simp at h
        · exfalso; simp at h
      · exfalso; simp at h
    · exfalso; simp at h
  · exfalso; simp at h
end Go.Vl

set_option linter.unusedVariables false
set_option linter.unusedSimpArgs false
namespace Go.Vl
open Go Go.Proofs
def smS (n : Int) : Nat := n.natAbs % 1099511627776
theorem smS_lt (n : Int) : smS n < 1099511627776 := Nat.mod_lt _ (by decide)
theorem tm_small (n : Int) : n.tmod 1099511627776 = if 0 ≤ n then (smS n : Int) else -(smS n : Int) := by
  cases n with
  | ofNat a => rw [if_pos (show 0 ≤ Int.ofNat a from Int.natCast_nonneg a)]; rfl
  | negSucc a => rw [if_neg (show ¬ 0 ≤ Int.negSucc a by omega)]; rfl
def rtE (e : Ed) : Ed := ⟨smS e.at_, smS e.out, smS e.inn⟩
def fwM (i : Nat) (m : Mk) : Mk := ⟨i, smS m.at_, m.gr % 2⟩
def fwL (l : List Mk) : List Mk := l.mapIdx fwM
theorem fwL_snoc (l : List Mk) (x : Mk) : fwL (l ++ [x]) = fwL l ++ [fwM l.length x] := by unfold fwL; rw [List.mapIdx_append]; simp
/-- Marks that may be, in order, none far. -/
structure Few (b : Int) (L : List Mk) : Prop where
  len : L.length ≤ 32
  at_ : ∀ i (h : i < L.length), L[i].id = i ∧ 0 ≤ L[i].at_ ∧ L[i].at_ < b ∧ L[i].gr < 2
theorem fw_few (l : List Mk) (h : l.length ≤ 32) : Few 1099511627776 (fwL l) := by
  refine ⟨by unfold fwL; rw [List.length_mapIdx]; exact h, fun i hi => ?_⟩
  unfold fwL at hi ⊢
  rw [List.length_mapIdx] at hi
  rw [List.getElem_mapIdx]
  have := smS_lt l[i].at_
  exact ⟨rfl, by show (0 : Int) ≤ (smS _ : Int); omega, by show (smS _ : Int) < _; omega, Nat.mod_lt _ (by decide)⟩
theorem Few.may {b : Int} {L : List Mk} (h : Few b L) : mayS L = 0 := by
  refine may_ok h.len (List.all_eq_true.2 fun x hx => ?_) ?_
  · obtain ⟨i, hi, rfl⟩ := List.mem_iff_getElem.1 hx
    obtain ⟨_, h1, _, h2⟩ := h.at_ i hi
    unfold okM; rw [decide_eq_true h1, decide_eq_true (by omega)]; rfl
  · rw [List.Nodup, List.pairwise_iff_getElem]
    intro i j hi hj hij
    rw [List.length_map] at hi hj
    rw [List.getElem_map, List.getElem_map, (h.at_ i hi).1, (h.at_ j hj).1]
    omega
theorem Few.srt {b : Int} {L : List Mk} (h : Few b L) : srt (ltc cId) L = L := by
  refine (srt_of cId_swo ⟨?_, fun _ => rfl⟩).symm
  unfold Sd
  rw [List.pairwise_iff_getElem]
  intro i j hi hj hij
  rw [cId_neg, (h.at_ i hi).1, (h.at_ j hj).1]
  simp; omega
theorem Few.mono {b c : Int} {L : List Mk} (h : Few b L) (hc : b ≤ c) : Few c L := ⟨h.len, fun i hi => by have := h.at_ i hi; exact ⟨this.1, this.2.1, by omega, this.2.2.2⟩⟩
structure Near (b : Int) (e : Ed) : Prop where
  a : 0 ≤ e.at_ ∧ e.at_ ≤ b
  o : 0 ≤ e.out ∧ e.out ≤ b
  i : 0 ≤ e.inn ∧ e.inn ≤ b
/-- Where a mark goes, told by cases. -/
def Went (e : Ed) (x y : Mk) : Prop := y.id = x.id ∧ y.gr = x.gr ∧ ((x.at_ < e.at_ ∧ y.at_ = x.at_) ∨ (e.at_ ≤ x.at_ ∧ e.at_ + e.out < x.at_ ∧ y.at_ = x.at_ - e.out + e.inn) ∨ (e.at_ ≤ x.at_ ∧ x.at_ ≤ e.at_ + e.out ∧ x.gr = 1 ∧ y.at_ = e.at_ + e.inn) ∨ (e.at_ ≤ x.at_ ∧ x.at_ ≤ e.at_ + e.out ∧ x.gr ≠ 1 ∧ y.at_ = e.at_))
theorem mv_went {b : Int} {e : Ed} {x : Mk} (hb : b ≤ 1000000000000000000) (he : Near 1000000000000000000 e) (h0 : 0 ≤ x.at_) (hx : x.at_ < b) : (gnM e x).isSome = true ∧ Went e x (mvM e x) := by
  obtain ⟨⟨a1, a2⟩, ⟨o1, o2⟩, i1, i2⟩ := he
  by_cases c1 : x.at_ < e.at_
  · have hg : gnM e x = some x.at_ := by unfold gnM goneS; rw [if_pos c1]
    exact ⟨by rw [hg]; rfl, by rw [mv_of hg]; exact ⟨rfl, rfl, .inl ⟨c1, rfl⟩⟩⟩
  · by_cases c2 : e.at_ + e.out < x.at_
    · have hg : gnM e x = some (x.at_ - e.out + e.inn) := by unfold gnM goneS; rw [if_neg c1, if_pos c2, if_neg (by omega)]
      exact ⟨by rw [hg]; rfl, by rw [mv_of hg]; exact ⟨rfl, rfl, .inr (.inl ⟨by omega, c2, rfl⟩)⟩⟩
    · by_cases c3 : x.gr = 1
      · have hg : gnM e x = some (e.at_ + e.inn) := by unfold gnM goneS; rw [if_neg c1, if_neg c2, if_pos (decide_eq_true c3)]
        exact ⟨by rw [hg]; rfl, by rw [mv_of hg]; exact ⟨rfl, rfl, .inr (.inr (.inl ⟨by omega, by omega, c3, rfl⟩))⟩⟩
      · have hg : gnM e x = some e.at_ := by unfold gnM goneS; rw [if_neg c1, if_neg c2, if_neg (by simpa using c3)]
        exact ⟨by rw [hg]; rfl, by rw [mv_of hg]; exact ⟨rfl, rfl, .inr (.inr (.inr ⟨by omega, by omega, c3, rfl⟩))⟩⟩
theorem few_shift {b : Int} {L : List Mk} {e : Ed} (h : Few b L) (hb : b ≤ 1000000000000000000) (he : Near 1000000000000000000 e) : shiftS L e = (L.map (mvM e), 0) ∧ (∀ i (hi : i < L.length), Went e L[i] (mvM e L[i])) := by
  have hw : ∀ x ∈ L, (gnM e x).isSome = true ∧ Went e x (mvM e x) := fun x hx => by
    obtain ⟨i, hi, rfl⟩ := List.mem_iff_getElem.1 hx
    exact mv_went hb he (h.at_ i hi).2.1 (h.at_ i hi).2.2.1
  refine ⟨?_, fun i hi => (hw _ (List.getElem_mem hi)).2⟩
  have hem : edMay e = true := by
    obtain ⟨⟨a1, a2⟩, ⟨o1, o2⟩, i1, i2⟩ := he
    unfold edMay; exact decide_eq_true (by omega)
  unfold shiftS
  rw [if_neg (by rw [h.may]; decide), if_neg (by rw [hem]; decide), h.srt, if_pos (List.all_eq_true.2 fun x hx => (hw x hx).1)]
theorem Few.map {b c : Int} {L : List Mk} {e : Ed} (h : Few b L) (hw : ∀ i (hi : i < L.length), Went e L[i] (mvM e L[i])) (he : Near 1000000000000000000 e) (hc : ∀ x y : Mk, 0 ≤ x.at_ → x.at_ < b → Went e x y → y.at_ < c) : Few c (L.map (mvM e)) := by
  refine ⟨by rw [List.length_map]; exact h.len, fun i hi => ?_⟩
  rw [List.length_map] at hi
  rw [List.getElem_map]
  obtain ⟨h1, h2, h3, h4⟩ := h.at_ i hi
  obtain ⟨w1, w2, w3⟩ := hw i hi
  obtain ⟨⟨a1, a2⟩, ⟨o1, o2⟩, i1, i2⟩ := he
  exact ⟨by rw [w1, h1], by omega, hc _ _ h2 h3 (hw i hi), by omega⟩
theorem few_check {b z : Int} {L : List Mk} (h : Few b L) (hz : ∀ i (hi : i < L.length), L[i].at_ ≤ z) : checkS L z = 0 := by
  unfold checkS
  rw [if_neg (by rw [h.may]; decide), if_neg]
  rw [List.any_eq_true]
  rintro ⟨x, hx, hb⟩
  obtain ⟨i, hi, rfl⟩ := List.mem_iff_getElem.1 hx
  have := hz i hi
  have := of_decide_eq_true hb
  omega
theorem Few.mkw {b : Int} {L : List Mk} (h : Few b L) (hb : b ≤ 1000000000000000000) : ∀ x ∈ L, MkW x := fun x hx => by
  obtain ⟨i, hi, rfl⟩ := List.mem_iff_getElem.1 hx
  obtain ⟨h1, h2, h3, h4⟩ := h.at_ i hi
  have := h.len
  exact ⟨by omega, by omega, by omega⟩
theorem Near.w {e : Ed} (h : Near 1000000000000000000 e) : EdW e := ⟨by have := h.a; omega, by have := h.o; omega, by have := h.i; omega⟩
theorem rt_near (e : Ed) : Near 1099511627775 (rtE e) := by
  have h1 := smS_lt e.at_
  have h2 := smS_lt e.out
  have h3 := smS_lt e.inn
  exact ⟨by show (0 : Int) ≤ (smS _ : Int) ∧ (smS _ : Int) ≤ _; omega, by show (0 : Int) ≤ (smS _ : Int) ∧ (smS _ : Int) ≤ _; omega, by show (0 : Int) ≤ (smS _ : Int) ∧ (smS _ : Int) ≤ _; omega⟩
theorem Near.mono {b c : Int} {e : Ed} (h : Near b e) (hc : b ≤ c) : Near c e := ⟨by have := h.a; omega, by have := h.o; omega, by have := h.i; omega⟩
attribute [local irreducible] Sl pt ro SlB
set_option maxRecDepth 20000 in
set_option maxHeartbeats 2000000 in
theorem small_c {A : SP} {n : Int} (hn : -9223372036854775808 ≤ n ∧ n ≤ 9223372036854775807 := by first | assumption | omega) :
    Fn Try.prog 19 #[.int .i64 n] (A) (fun r B => r = .int .i64 (smS n : Nat) ∧ A = B) := by
  refine fn_enterW (args := [.int .i64 n]) Try.func19 rfl Try.ntmps19 (by simp) ?_
  have hsl := smS_lt n
  have htm := tm_small n
  refine sr ?_; refine tla ?_; refine nq ?_; refine sr ?_; refine tlm ?_; refine tv (o_rem rfl rfl (by decide)) ?_; refine tla ?_; refine nq ?_; refine tc_seq ?_; refine sr ?_; refine tlm ?_; refine tv (o_lss rfl rfl) ?_; refine nq ?_; refine tc_cond rfl (fun h => ?_) (fun h => ?_)
  · have hneg : n.tmod 1099511627776 < 0 := by first | exact of_decide_eq_true h | exact h | simpa using h
    have hn0 : ¬ 0 ≤ n := fun hc => by rw [if_pos hc] at htm; omega
    rw [if_neg hn0] at htm
    refine tc_reg ?_; refine tlm ?_; refine tv (o_neg rfl) ?_; refine tl_env (d := 8) (v := .int .i64 (smS n : Nat)) (by show Value.int .i64 (IntKind.i64.wrap (0 - n.tmod 1099511627776)) = _; rw [htm, show (0 : Int) - -(smS n : Int) = (smS n : Nat) by omega, wrap_i64 (by omega)]) ?_; refine tla ?_; refine nq ?_; refine sr ?_; refine tlm ?_; refine tla ?_; refine nq ?_; refine tc_ret ?_; refine ⟨.int .i64 (smS n : Nat), _, res1 rfl rfl, ?_, rfl, rfl⟩; exact Dr.sat (by repeat (first | with_reducible exact dr_refl | apply dr_keep | apply dr_drop))
  · have hneg : ¬ n.tmod 1099511627776 < 0 := by first | exact of_decide_eq_false h | exact h | simpa using h
    have htm2 : n.tmod 1099511627776 = (smS n : Int) := by rw [htm]; split at htm <;> omega
    refine tc_skip ?_; refine q_then_n ?_; refine sr ?_; refine tlm ?_; refine tla ?_; refine nq ?_; refine tc_ret ?_; exact ⟨.int .i64 (n.tmod 1099511627776), A, res1 rfl rfl, Dr.sat (by repeat (first | with_reducible exact dr_refl | apply dr_keep | apply dr_drop)), by rw [htm2], rfl⟩
set_option maxRecDepth 20000 in
set_option maxHeartbeats 2000000 in
theorem rightE_c {A : SP} {e : Ed} (hE : EdW e := by assumption) :
    Fn Try.prog 17 #[.agg e.cells.toArray] (A) (fun r B => r = .agg (rtE e).cells.toArray ∧ A = B) := by
  refine fn_enterW (args := [.agg e.cells.toArray]) Try.func17 rfl Try.ntmps17 (by simp) ?_
  have hEa := hE.a
  have hEo := hE.o
  have hEi := hE.i
  refine sr ?_; refine tl_x rfl (o_box rfl rfl) ?_; rintro _ _ ⟨b1, rfl, rfl⟩; refine tl_x rfl (o_alloc z24 rfl) ?_; rintro _ _ ⟨b2, rfl, rfl⟩; refine nq ?_; refine tc_seq ?_; refine tc_regh (S := A * pt b1 (cl e.cells 24)) mo (by repeat (first | with_reducible exact dr_refl | apply dr_keep | apply dr_drop)) ?_
  show TH _ _ _ _ _ 11 #[ff,ff,ff,ff,ff,ff,ff,ff,ff,ff,ff] _ _
  refine th_take (i := 0) (listed' := #[tt,ff,ff,ff,ff,ff,ff,ff,ff,ff,ff]) rfl (by kernel_rfl) (by kernel_rfl) (by kernel_rfl) rfl rfl (o_fieldAddr (o := 0) Try.underlying24 rfl rfl sz3 rfl) ?_; refine th_take (i := 1) (listed' := #[tt,tt,ff,ff,ff,ff,ff,ff,ff,ff,ff]) rfl (by kernel_rfl) (by kernel_rfl) (by kernel_rfl) rfl rfl (by first | exact o_load p3 rfl (by repeat (first | with_reducible exact has_here | with_reducible exact has_pt | apply has_left)) rfl | exact o_loadC p3 rfl (by assumption)) ?_; refine th_take (i := 3) (listed' := #[tt,tt,ff,tt,ff,ff,ff,ff,ff,ff,ff]) rfl (by kernel_rfl) (by kernel_rfl) (by kernel_rfl) rfl rfl (o_fieldAddr (o := 1) Try.underlying24 rfl rfl sz3 rfl) ?_; refine th_take (i := 4) (listed' := #[tt,tt,ff,tt,tt,ff,ff,ff,ff,ff,ff]) rfl (by kernel_rfl) (by kernel_rfl) (by kernel_rfl) rfl rfl (by first | exact o_load p3 rfl (by repeat (first | with_reducible exact has_here | with_reducible exact has_pt | apply has_left)) rfl | exact o_loadC p3 rfl (by assumption)) ?_; refine th_take (i := 6) (listed' := #[tt,tt,ff,tt,tt,ff,tt,ff,ff,ff,ff]) rfl (by kernel_rfl) (by kernel_rfl) (by kernel_rfl) rfl rfl (o_fieldAddr (o := 2) Try.underlying24 rfl rfl sz3 rfl) ?_; refine th_take (i := 7) (listed' := #[tt,tt,ff,tt,tt,ff,tt,tt,ff,ff,ff]) rfl (by kernel_rfl) (by kernel_rfl) (by kernel_rfl) rfl rfl (by first | exact o_load p3 rfl (by repeat (first | with_reducible exact has_here | with_reducible exact has_pt | apply has_left)) rfl | exact o_loadC p3 rfl (by assumption)) ?_
  refine th_one (i := 2) (by kernel_rfl) ?_; refine oh_c (i := 2) (listed' := #[tt,tt,tt,tt,tt,ff,tt,tt,ff,ff,ff]) rfl rfl rfl (o_call bd19 rfl (small_c (n := e.at_))) ?_; rintro _ _ ⟨rfl, rfl⟩; refine ⟨by repeat (first | with_reducible exact dr_refl | apply dr_keep | apply dr_drop), ?_⟩; refine th_one (i := 5) (by kernel_rfl) ?_; refine oh_c (i := 5) (listed' := #[tt,tt,tt,tt,tt,tt,tt,tt,ff,ff,ff]) rfl rfl rfl (o_call bd19 rfl (small_c (n := e.out))) ?_; rintro _ _ ⟨rfl, rfl⟩; refine ⟨by repeat (first | with_reducible exact dr_refl | apply dr_keep | apply dr_drop), ?_⟩; refine th_one (i := 8) (by kernel_rfl) ?_; refine oh_c (i := 8) (listed' := #[tt,tt,tt,tt,tt,tt,tt,tt,tt,ff,ff]) rfl rfl rfl (o_call bd19 rfl (small_c (n := e.inn))) ?_; rintro _ _ ⟨rfl, rfl⟩; refine ⟨by repeat (first | with_reducible exact dr_refl | apply dr_keep | apply dr_drop), ?_⟩; refine th_take (i := 9) (listed' := #[tt,tt,tt,tt,tt,tt,tt,tt,tt,tt,ff]) rfl (by kernel_rfl) (by kernel_rfl) (by kernel_rfl) rfl rfl (o_bS (l := [_, _, _]) (pv_cons (by conv => lhs; whnf) (pv_cons (by conv => lhs; whnf) (pv_cons (by conv => lhs; whnf) pv_nil))) Try.underlying24 z24 (pl24 Try.underlying24) rfl) ?_; refine th_one (i := 10) (by kernel_rfl) ?_; refine oh_u (i := 10) (listed' := #[tt,tt,tt,tt,tt,tt,tt,tt,tt,tt,tt]) rfl rfl rfl (o_stUN (l' := (rtE e).cells) rfl (by repeat (first | with_reducible exact upd_here | with_reducible exact upd_pt | apply upd_left)) sz24 rfl rfl rfl (by show 3 ≤ 3; decide) rfl) (by repeat (first | with_reducible exact dr_refl | apply dr_keep | apply dr_drop)) ?_
  refine th_done (by kernel_rfl) ?_; refine q_then_n ?_; refine tc_ret ?_; exact ⟨.agg (rtE e).cells.toArray, A, resA1 rfl (rv_cell a24 sz24 rfl (by repeat (first | with_reducible exact has_here | with_reducible exact has_pt | apply has_left)) (by show 0 + 3 ≤ 3; decide) rfl), Dr.sat (by repeat (first | with_reducible exact dr_refl | apply dr_keep | apply dr_drop)), rfl, rfl⟩
set_option maxRecDepth 20000 in
set_option maxHeartbeats 2000000 in
theorem few_c {A : SP} {a : Option Addr} {c n : Nat} {l : List Mk} (hr : Rs A a (mcs l) := by repeat (first | assumption | with_reducible exact rs_sl | with_reducible exact rs_pt0 | exact rs_none | apply Rs.left)) (hm : l.length = n := by first | assumption | rfl) (hW : ∀ x ∈ l, MkW x := by assumption) (hs : n ≤ 1125899906842624 := by omega) :
    Fn Try.prog 16 #[.slice a n c] (A) (fun r B => ∃ L a2 c2, r = .slice a2 L.length c2 ∧ Few 1099511627776 L ∧ B = A * Sl 3 (.slice a2 L.length c2) L.length (mcs L)) := by
  refine fn_enterW (args := [.slice a n c]) Try.func16 rfl Try.ntmps16 (by simp) ?_; refine sr ?_; refine tla ?_; refine nq ?_; refine sr ?_; refine tla ?_; refine nq ?_; refine tc_seq ?_; refine sr ?_; refine tla ?_; refine nq ?_; refine tc_block ?_; refine tc_pre (A' := A * Sl 3 (.slice none 0 0) 0 (mcs (fwL (l.take 0)))) (fun _ _ h => sl_nil (Dr.sat (by repeat (first | with_reducible exact dr_refl | apply dr_keep | apply dr_drop)) _ _ h)) ?_; refine tc_loop (fun kk ρ BB => ∃ (i : Nat) (a3 : Option Addr) (c3 : Nat), (i ≤ n) ∧ (i ≤ 32) ∧ kk = n - i ∧ ρ 3 = .slice a3 i c3 ∧ ρ 4 = .int .i64 (i : Nat) ∧ ρ 0 = .slice a n c ∧ Dr BB (A * Sl 3 (.slice a3 i c3) i (mcs (fwL (l.take i))))) (m := n - (0)) ?_ ?_
  · exact ⟨0, none, 0, by omega, by omega, rfl, rfl, rfl, rfl, (by repeat (first | with_reducible exact dr_refl | apply dr_keep | apply dr_drop))⟩
  · intro k ρ B hI
    obtain ⟨i, a3, c3, hp0, hp1, hkk1, hE3, hE4, hE0, hBA⟩ := hI
    refine tc_pre hBA.sat ?_
    clear hBA
    refine tc_env (d := 3) hE3 ?_; refine tc_env (d := 4) hE4 ?_; refine tc_env (d := 0) hE0 ?_
    clear hE3 hE4 hE0
    refine tc_seq ?_; refine sr ?_; refine tlm ?_; refine tlm ?_; refine tv (o_len Try.underlying22 rfl) ?_; refine tv (o_lss rfl rfl) ?_; refine tlm ?_; refine tl_bool (d := 10) rfl (fun h => ?_) (fun h => ?_)
    · have hi0 : i < n := by first | omega | (simp at h; omega)
      refine tlm ?_; refine tv (o_lss rfl rfl) ?_; refine tv (o_pick_t rfl (by conv => lhs; whnf)) ?_; refine nq ?_; refine tc_cond rfl (fun h => ?_) (fun h => ?_)
      · have hi : i < l.length := by first | omega | (simp at h; omega)
        obtain ⟨x, hx⟩ : ∃ x, l[i] = x := ⟨_, rfl⟩
        have htk : l.take (i + 1) = l.take i ++ [x] := by rw [List.take_succ_eq_append_getElem hi, hx]
        have hi32 : i < 32 := by first | omega | (simp at h; omega)
        have hxm : x ∈ l := hx ▸ List.getElem_mem hi
        have hxW := hW x hxm
        have hxa := hxW.at_
        have hL_ : fwL (l.take (i + 1)) = fwL (l.take i) ++ [fwM i x] := by rw [htk, fwL_snoc, List.length_take, Nat.min_eq_left (by omega)]
        refine tc_skip ?_; refine q_then_n ?_; refine tc_seq ?_; refine tc_block ?_; refine sr ?_; refine tlm ?_; refine tlm ?_; refine tv (o_ixP Try.underlying22 sz35 rfl rfl (by omega) (by repeat (first | exact nn_rs hr (fun _ => by rw [mcs_len]; omega) | apply Nn.left))) ?_; refine tv (o_ldPN (vs := (x).cells) a35 sz35 rfl (by repeat (first | exact hr | apply Rs.left)) (by rw [mcs_at (by omega), hx]) rfl (by decide)) ?_; refine tl_x rfl (o_alloc z35 rfl) ?_; rintro _ _ ⟨b5, rfl, rfl⟩; refine tl_u rfl (o_stUN (l' := x.cells) rfl (by repeat (first | with_reducible exact upd_here | with_reducible exact upd_pt | apply upd_left)) sz35 rfl rfl rfl (by show 3 ≤ 3; decide) rfl) ?_; refine nq ?_; refine sr ?_; refine tlm ?_; refine tv (by first | exact o_conv32 Try.underlying3 Try.underlying33 rfl | exact o_conv Try.underlying3 Try.underlying33 rfl) ?_; refine tl_env (d := 21) (v := .int .u32 (i : Nat)) (by first | rfl | (show Value.int .u32 _ = _; congr 1; first | omega | (simp [IntKind.wrap, IntKind.bits, IntKind.signed]; omega))) ?_; refine tv (o_fieldAddr (o := 0) Try.underlying35 rfl rfl sz33 rfl) ?_; refine tl_u rfl (o_stU rfl (by repeat (first | with_reducible exact upd_here | with_reducible exact upd_pt | apply upd_left)) sz33 rfl rfl (by show 0 < 3; decide) rfl) ?_
        refine nq ?_; refine sr ?_; refine tv (o_fieldAddr (o := 1) Try.underlying35 rfl rfl sz3 rfl) ?_; refine tv (by first | exact o_load p3 rfl (by repeat (first | with_reducible exact has_here | with_reducible exact has_pt | apply has_left)) rfl | exact o_loadC p3 rfl (by assumption)) ?_; refine tl_c rfl (o_call bd19 rfl (small_c (n := x.at_))) ?_; rintro _ _ ⟨rfl, rfl⟩; refine tv (o_fieldAddr (o := 1) Try.underlying35 rfl rfl sz3 rfl) ?_; refine tl_u rfl (o_stU rfl (by repeat (first | with_reducible exact upd_here | with_reducible exact upd_pt | apply upd_left)) sz3 rfl rfl (by show 1 < 3; decide) rfl) ?_; refine nq ?_; refine sr ?_; refine tv (o_fieldAddr (o := 2) Try.underlying35 rfl rfl sz5 rfl) ?_; refine tv (by first | exact o_load p5 rfl (by repeat (first | with_reducible exact has_here | with_reducible exact has_pt | apply has_left)) rfl | exact o_loadC p5 rfl (by assumption)) ?_; refine tv (o_remN rfl rfl (by decide)) ?_; refine tv (o_fieldAddr (o := 2) Try.underlying35 rfl rfl sz5 rfl) ?_; refine tl_u rfl (o_stU rfl (by repeat (first | with_reducible exact upd_here | with_reducible exact upd_pt | apply upd_left)) sz5 rfl rfl (by show 2 < 3; decide) rfl) ?_; refine nq ?_; refine tc_reg ?_
        refine tlm ?_; refine tv (o_loadN (vs := (fwM i x).cells) a35 sz35 rfl (by repeat (first | with_reducible exact has_here | with_reducible exact has_pt | apply has_left)) (by show 3 ≤ 3; decide) rfl) ?_; refine tl_x rfl (o_buildSliceK (k := 3) (l := (fwM i x).cells) Try.underlying22 sz35 z35 rfl rfl (by decide)) ?_; rintro _ _ ⟨b33, rfl, rfl⟩; refine tl_x rfl (o_apB Try.underlying22 Try.underlying22 sz35 by35 z35 rfl (by decide) (by decide) rfl rfl rfl (by repeat (first | with_reducible exact ct_here | apply ct_left)) rfl rfl (by omega) (show _ = mcs (fwL (l.take i) ++ [fwM i x]) by rw [mcs_append]; rfl)) ?_; rintro _ _ ⟨a34, c34, rfl, hc34, rfl⟩; refine tla ?_; refine tl_nil ?_; refine q_block_n (q_then_n ?_); refine tc_reg ?_; refine tlm ?_; refine tv (by first | exact o_addI rfl rfl (by omega) | exact o_add rfl rfl) ?_; refine tla ?_; refine nq ?_; exact ⟨_, by omega, i + 1, _, _, by omega, by omega, rfl, rfl, rfl, rfl, by rw [hL_]; repeat (first | with_reducible exact dr_refl | apply dr_keep | apply dr_drop)⟩
      · try simp only [lv1, lv2, lv3, lv4, lv5, lv6, Bool.not_true, Bool.not_false] at h
        refine tc_exit ?_; refine q_then_e (q_then_e (q_block_x (q_then_n ?_))); refine sr ?_; refine tlm ?_; refine tla ?_; refine nq ?_; refine tc_ret ?_
        have el : (fwL (l.take i)).length = i := by unfold fwL; rw [List.length_mapIdx, List.length_take]; omega
        exact ⟨.slice a3 i c3, _, res1 rfl rfl, fun _ _ h => h, fwL (l.take i), a3, c3, by rw [el], fw_few _ (by rw [List.length_take]; omega), by rw [el]⟩
    · have hi0 : ¬ i < n := by first | omega | (simp at h; omega)
      refine tk ?_; refine tk ?_; refine tv (o_pick_f rfl (by conv => lhs; whnf)) ?_; refine nq ?_; refine tc_cond_f rfl ?_; refine tc_exit ?_; refine q_then_e (q_then_e (q_block_x (q_then_n ?_))); refine sr ?_; refine tlm ?_; refine tla ?_; refine nq ?_; refine tc_ret ?_
      have el : (fwL (l.take i)).length = i := by unfold fwL; rw [List.length_mapIdx, List.length_take]; omega
      exact ⟨.slice a3 i c3, _, res1 rfl rfl, fun _ _ h => h, fwL (l.take i), a3, c3, by rw [el], fw_few _ (by rw [List.length_take]; omega), by rw [el]⟩
end Go.Vl

set_option linter.unusedVariables false
set_option linter.unusedSimpArgs false
namespace Go.Vl
open Go Go.Proofs
theorem went_lt {E : Ed} {x y : Mk} (hN : Near 1099511627775 E) (h0 : 0 ≤ x.at_) (h1 : x.at_ < 1099511627776) (h : Went E x y) : y.at_ ≤ 4398046511104 - E.out + E.inn ∧ y.at_ < 4398046511105 := by
  obtain ⟨Ea1, Ea2⟩ := hN.a
  obtain ⟨Eo1, Eo2⟩ := hN.o
  obtain ⟨Ei1, Ei2⟩ := hN.i
  obtain ⟨_, _, h3⟩ := h
  omega
theorem go_few {E : Ed} {L : List Mk} (hL : Few 1099511627776 L) (hgo : ∀ i (hi : i < L.length), Went E L[i] (mvM E L[i])) (hN : Near 1099511627775 E) : Few 4398046511105 (L.map (mvM E)) :=
  hL.map hgo (hN.mono (by decide)) fun x y h0 h1 h => (went_lt hN h0 h1 h).2
theorem go_check {E : Ed} {L : List Mk} (hL : Few 1099511627776 L) (hgo : ∀ i (hi : i < L.length), Went E L[i] (mvM E L[i])) (hN : Near 1099511627775 E) : checkS (L.map (mvM E)) (4398046511104 - E.out + E.inn) = 0 :=
  few_check (go_few hL hgo hN) fun i hi => by
    rw [List.length_map] at hi
    rw [List.getElem_map]
    exact (went_lt hN (hL.at_ i hi).2.1 (hL.at_ i hi).2.2.1 (hgo i hi)).1
attribute [local irreducible] Sl pt ro SlB
set_option maxRecDepth 20000 in
set_option maxHeartbeats 4000000 in
theorem MarksGo_f (F : SP) {a : Option Addr} {c n : Nat} {l : List Mk} {e : Ed} (hr : Rs F a (mcs l)) (hm : l.length = n) (hW : ∀ x ∈ l, MkW x) (hE : EdW e) (hn : n ≤ 1125899906842624) :
    Fn Try.prog 4 #[.slice a n c, .agg e.cells.toArray] (F) (fun r B => r = .bool true ∧ B = F) := by
  refine fn_enterW (args := [.slice a n c, .agg e.cells.toArray]) Try.func4 rfl Try.ntmps4 (by simp) ?_
  obtain ⟨E, hEe⟩ : ∃ E, rtE e = E := ⟨_, rfl⟩
  have hN : Near 1099511627775 E := hEe ▸ rt_near e
  obtain ⟨Ea1, Ea2⟩ := hN.a
  obtain ⟨Eo1, Eo2⟩ := hN.o
  obtain ⟨Ei1, Ei2⟩ := hN.i
  refine sr ?_; refine tl_x rfl (o_box rfl rfl) ?_; rintro _ _ ⟨b3, rfl, rfl⟩; refine tla ?_; refine nq ?_; refine sr ?_; refine tlm ?_; refine tl_c rfl (o_call bd16 rfl (few_c (l := l))) ?_; rintro _ _ ⟨L13, a13, c13, rfl, hL13, rfl⟩
  have hLl := hL13.len
  have hF := few_shift hL13 (by decide) (hN.mono (by decide))
  have hsh := hF.1
  have hgo := hF.2
  obtain ⟨M, hM⟩ : ∃ M, L13.map (mvM E) = M := ⟨_, rfl⟩
  rw [hM] at hsh
  have hMl : M.length = L13.length := by rw [← hM, List.length_map]
  have hMat : ∀ i (h : i < L13.length), Went E L13[i] (M[i]'(by omega)) := fun i h => by have := hgo i h; subst hM; rw [List.getElem_map]; exact this
  refine tla ?_; refine nq ?_; refine sr ?_; refine tv (o_loadN (vs := (e).cells) a24 sz24 rfl (by repeat (first | with_reducible exact has_here | with_reducible exact has_pt | apply has_left)) (by show 3 ≤ 3; decide) rfl) ?_; refine tl_c rfl (o_call bd17 rfl (rightE_c (e := e))) ?_; rintro _ _ ⟨rfl, rfl⟩; refine tl_env (d := 15) (v := .agg E.cells.toArray) (by show Value.agg (rtE e).cells.toArray = _; rw [hEe]) ?_; refine tl_u rfl (o_stUN (l' := E.cells) rfl (by repeat (first | with_reducible exact upd_here | with_reducible exact upd_pt | apply upd_left)) sz24 rfl rfl rfl (by show 3 ≤ 3; decide) rfl) ?_; refine nq ?_; refine sr ?_; refine tlm ?_; refine tv (o_loadN (vs := (E).cells) a24 sz24 rfl (by repeat (first | with_reducible exact has_here | with_reducible exact has_pt | apply has_left)) (by show 3 ≤ 3; decide) rfl) ?_; refine tl_c rfl (o_call bd12 rfl (Shiftw (l := L13) (e := E) (n := L13.length) hsh (hr := (by repeat (first | with_reducible exact rs_sl | assumption | apply Rs.left))) (hW := hL13.mkw (by decide)) (hE := (hN.mono (by decide)).w) (hs := by have := hL13.len; omega))) ?_; rintro _ _ ⟨a19, c19, rfl, hc19, rfl⟩; refine tlm ?_; refine tv (o_extract rfl rfl) ?_; refine tv (o_extract rfl rfl) ?_; refine tla ?_; refine tla ?_; refine nq ?_; refine tc_seq ?_; refine sr ?_; refine tlm ?_; refine tv (o_nei rfl rfl) ?_
  refine tlm ?_; refine tl_bool (d := 24) rfl (fun h => ?_) (fun h => ?_)
  · exfalso; simp at h
  · try simp only [lv1, lv2, lv3, lv4, lv5, lv6, Bool.not_true, Bool.not_false] at h
    refine tlm ?_; refine tv (o_len Try.underlying22 rfl) ?_; refine tlm ?_; refine tv (o_len Try.underlying22 rfl) ?_; refine tv (o_nei rfl rfl) ?_; refine tv (o_pick_f rfl (by conv => lhs; whnf)) ?_; refine nq ?_; refine tc_cond rfl (fun h => ?_) (fun h => ?_)
    · exfalso; first | (simp [hMl] at h; done) | (have h2 := of_decide_eq_true h; exact h2 (by rw [hMl]))
    · try simp only [lv1, lv2, lv3, lv4, lv5, lv6, Bool.not_true, Bool.not_false] at h
      refine tc_skip ?_; refine q_then_n ?_; refine sr ?_; refine tla ?_; refine nq ?_; refine tc_seq ?_; refine sr ?_; refine tla ?_; refine nq ?_; refine tc_block ?_; refine tc_loop (fun kk ρ BB => ∃ (i : Nat), (i ≤ L13.length) ∧ kk = L13.length - i ∧ ρ 8 = .int .i64 (i : Nat) ∧ ρ 0 = .slice a13 L13.length c13 ∧ ρ 3 = .pointer (some ⟨b3, 0, none⟩) ∧ ρ 5 = .slice a19 M.length c19 ∧ ρ 7 = .int .i64 4398046511104 ∧ Dr BB (F * pt b3 (cl E.cells 24) * Sl 3 (.slice a13 L13.length c13) L13.length (mcs L13) * Sl 3 (.slice a19 M.length c19) M.length (mcs M))) (m := L13.length - (0)) ?_ ?_
      · exact ⟨0, by omega, rfl, rfl, rfl, rfl, rfl, rfl, (by repeat (first | with_reducible exact dr_refl | apply dr_keep | apply dr_drop))⟩
      · intro k ρ B hI
        obtain ⟨i, hp0, hkk1, hE8, hE0, hE3, hE5, hE7, hBA⟩ := hI
        refine tc_pre hBA.sat ?_
        clear hBA
        refine tc_env (d := 8) hE8 ?_; refine tc_env (d := 0) hE0 ?_; refine tc_env (d := 3) hE3 ?_; refine tc_env (d := 5) hE5 ?_; refine tc_env (d := 7) hE7 ?_
        clear hE8 hE0 hE3 hE5 hE7
        refine tc_seq ?_; refine sr ?_; refine tlm ?_; refine tlm ?_; refine tv (o_len Try.underlying22 rfl) ?_; refine tv (o_lss rfl rfl) ?_; refine nq ?_; refine tc_cond rfl (fun h => ?_) (fun h => ?_)
        · have hi : i < L13.length := by first | omega | (simp at h; omega)
          have hi2 : i < M.length := by omega
          obtain ⟨y1, y2, y3⟩ := hMat i hi
          obtain ⟨x0, x1, x2, x4⟩ := hL13.at_ i hi
          obtain ⟨x, hx⟩ : ∃ x, L13[i] = x := ⟨_, rfl⟩
          obtain ⟨y, hy⟩ : ∃ y, M[i] = y := ⟨_, rfl⟩
          rw [hx] at y1 y2 y3 x0 x1 x2 x4
          rw [hy] at y1 y2 y3
          refine tc_skip ?_; refine q_then_n ?_; refine tc_seq ?_; refine tc_block ?_; refine tc_seq ?_; refine tc_cut (fun ρ BB => ∃ (b9 : Nat) (b10 : Nat), ρ 9 = .pointer (some ⟨b9, 0, none⟩) ∧ ρ 10 = .pointer (some ⟨b10, 0, none⟩) ∧ ρ 0 = .slice a13 L13.length c13 ∧ ρ 3 = .pointer (some ⟨b3, 0, none⟩) ∧ ρ 5 = .slice a19 M.length c19 ∧ ρ 7 = .int .i64 4398046511104 ∧ ρ 8 = .int .i64 (i : Nat) ∧ BB = F * pt b3 (cl E.cells 24) * Sl 3 (.slice a13 L13.length c13) L13.length (mcs L13) * Sl 3 (.slice a19 M.length c19) M.length (mcs M) * pt b9 (cl x.cells 35) * pt b10 (cl y.cells 35)) ?_ ?_
          · skip
            refine tc_regh (S := F * pt b3 (cl E.cells 24) * Sl 3 (.slice a13 L13.length c13) L13.length (mcs L13) * Sl 3 (.slice a19 M.length c19) M.length (mcs M)) mo (by repeat (first | with_reducible exact dr_refl | apply dr_keep | apply dr_drop)) ?_
            show TH _ _ _ _ _ 12 #[ff,ff,ff,ff,ff,ff,ff,ff,ff,ff,ff,ff] _ _
            refine th_take (i := 0) (listed' := #[tt,ff,ff,ff,ff,ff,ff,ff,ff,ff,ff,ff]) rfl (by kernel_rfl) (by kernel_rfl) (by kernel_rfl) rfl rfl (o_move (by conv => lhs; whnf)) ?_; refine th_take (i := 1) (listed' := #[tt,tt,ff,ff,ff,ff,ff,ff,ff,ff,ff,ff]) rfl (by kernel_rfl) (by kernel_rfl) (by kernel_rfl) rfl rfl (o_move (by conv => lhs; whnf)) ?_; refine th_take (i := 2) (listed' := #[tt,tt,tt,ff,ff,ff,ff,ff,ff,ff,ff,ff]) rfl (by kernel_rfl) (by kernel_rfl) (by kernel_rfl) rfl rfl (o_ixP (a := a13) Try.underlying22 sz35 rfl rfl (by omega) (nn_rs (by repeat (first | with_reducible exact rs_sl | assumption | apply Rs.left)) (fun _ => by rw [mcs_len]; omega))) ?_; refine th_take (i := 3) (listed' := #[tt,tt,tt,tt,ff,ff,ff,ff,ff,ff,ff,ff]) rfl (by kernel_rfl) (by kernel_rfl) (by kernel_rfl) rfl rfl (o_ldPN (a := a13) (vs := x.cells) a35 sz35 rfl (by repeat (first | with_reducible exact rs_sl | assumption | apply Rs.left)) (by rw [mcs_at (by omega), hx]) rfl (by decide)) ?_; refine th_take (i := 4) (listed' := #[tt,tt,tt,tt,tt,ff,ff,ff,ff,ff,ff,ff]) rfl (by kernel_rfl) (by kernel_rfl) (by kernel_rfl) rfl rfl (o_move (by conv => lhs; whnf)) ?_; refine th_take (i := 5) (listed' := #[tt,tt,tt,tt,tt,tt,ff,ff,ff,ff,ff,ff]) rfl (by kernel_rfl) (by kernel_rfl) (by kernel_rfl) rfl rfl (o_move (by conv => lhs; whnf)) ?_; refine th_take (i := 6) (listed' := #[tt,tt,tt,tt,tt,tt,tt,ff,ff,ff,ff,ff]) rfl (by kernel_rfl) (by kernel_rfl) (by kernel_rfl) rfl rfl (o_ixP (a := a19) Try.underlying22 sz35 rfl rfl (by omega) (nn_rs (by repeat (first | with_reducible exact rs_sl | assumption | apply Rs.left)) (fun _ => by rw [mcs_len]; omega))) ?_
            refine th_take (i := 7) (listed' := #[tt,tt,tt,tt,tt,tt,tt,tt,ff,ff,ff,ff]) rfl (by kernel_rfl) (by kernel_rfl) (by kernel_rfl) rfl rfl (o_ldPN (a := a19) (vs := y.cells) a35 sz35 rfl (by repeat (first | with_reducible exact rs_sl | assumption | apply Rs.left)) (by rw [mcs_at (by omega), hy]) rfl (by decide)) ?_; refine th_two (i := 8) (j := 9) (by kernel_rfl) ?_ ?_
            · skip
              refine oh_x (i := 8) (listed' := #[tt,tt,tt,tt,tt,tt,tt,tt,tt,ff,ff,ff]) rfl rfl rfl (o_alloc z35 rfl) ?_; rintro _ _ ⟨b9, rfl, rfl⟩; refine ⟨by repeat (first | with_reducible exact dr_refl | apply dr_keep | apply dr_drop), ?_⟩; refine th_one (i := 9) (by kernel_rfl) ?_; refine oh_x (i := 9) (listed' := #[tt,tt,tt,tt,tt,tt,tt,tt,tt,tt,ff,ff]) rfl rfl rfl (o_alloc z35 rfl) ?_; rintro _ _ ⟨b10, rfl, rfl⟩; refine ⟨by repeat (first | with_reducible exact dr_refl | apply dr_keep | apply dr_drop), ?_⟩; refine th_one (i := 10) (by kernel_rfl) ?_; refine oh_u (i := 10) (listed' := #[tt,tt,tt,tt,tt,tt,tt,tt,tt,tt,tt,ff]) rfl rfl rfl (o_stUN (l' := x.cells) rfl (by repeat (first | with_reducible exact upd_here | with_reducible exact upd_pt | apply upd_left)) sz35 rfl rfl rfl (by show 3 ≤ 3; decide) rfl) (by repeat (first | with_reducible exact dr_refl | apply dr_keep | apply dr_drop)) ?_; refine th_one (i := 11) (by kernel_rfl) ?_; refine oh_u (i := 11) (listed' := #[tt,tt,tt,tt,tt,tt,tt,tt,tt,tt,tt,tt]) rfl rfl rfl (o_stUN (l' := y.cells) rfl (by repeat (first | with_reducible exact upd_here | with_reducible exact upd_pt | apply upd_left)) sz35 rfl rfl rfl (by show 3 ≤ 3; decide) rfl) (by repeat (first | with_reducible exact dr_refl | apply dr_keep | apply dr_drop)) ?_; refine th_done (by kernel_rfl) ?_; exact ⟨_, _, rfl, rfl, rfl, rfl, rfl, rfl, rfl, by ac_rfl⟩
            · skip
              refine oh_x (i := 9) (listed' := #[tt,tt,tt,tt,tt,tt,tt,tt,ff,tt,ff,ff]) rfl rfl rfl (o_alloc z35 rfl) ?_; rintro _ _ ⟨b10, rfl, rfl⟩; refine ⟨by repeat (first | with_reducible exact dr_refl | apply dr_keep | apply dr_drop), ?_⟩; refine th_one (i := 8) (by kernel_rfl) ?_; refine oh_x (i := 8) (listed' := #[tt,tt,tt,tt,tt,tt,tt,tt,tt,tt,ff,ff]) rfl rfl rfl (o_alloc z35 rfl) ?_; rintro _ _ ⟨b9, rfl, rfl⟩; refine ⟨by repeat (first | with_reducible exact dr_refl | apply dr_keep | apply dr_drop), ?_⟩; refine th_one (i := 10) (by kernel_rfl) ?_; refine oh_u (i := 10) (listed' := #[tt,tt,tt,tt,tt,tt,tt,tt,tt,tt,tt,ff]) rfl rfl rfl (o_stUN (l' := x.cells) rfl (by repeat (first | with_reducible exact upd_here | with_reducible exact upd_pt | apply upd_left)) sz35 rfl rfl rfl (by show 3 ≤ 3; decide) rfl) (by repeat (first | with_reducible exact dr_refl | apply dr_keep | apply dr_drop)) ?_; refine th_one (i := 11) (by kernel_rfl) ?_; refine oh_u (i := 11) (listed' := #[tt,tt,tt,tt,tt,tt,tt,tt,tt,tt,tt,tt]) rfl rfl rfl (o_stUN (l' := y.cells) rfl (by repeat (first | with_reducible exact upd_here | with_reducible exact upd_pt | apply upd_left)) sz35 rfl rfl rfl (by show 3 ≤ 3; decide) rfl) (by repeat (first | with_reducible exact dr_refl | apply dr_keep | apply dr_drop)) ?_; refine th_done (by kernel_rfl) ?_; exact ⟨_, _, rfl, rfl, rfl, rfl, rfl, rfl, rfl, by ac_rfl⟩
          · intro ρ B hI
            obtain ⟨b9, b10, hE9, hE10, hE0, hE3, hE5, hE7, hE8, rfl⟩ := hI
            refine q_then_n ?_; refine tc_env (d := 9) hE9 ?_; refine tc_env (d := 10) hE10 ?_; refine tc_env (d := 0) hE0 ?_; refine tc_env (d := 3) hE3 ?_; refine tc_env (d := 5) hE5 ?_; refine tc_env (d := 7) hE7 ?_; refine tc_env (d := 8) hE8 ?_
            clear hE9 hE10 hE0 hE3 hE5 hE7 hE8
            refine tc_seq ?_; refine sr ?_; refine tv (o_fieldAddr (o := 0) Try.underlying35 rfl rfl sz33 rfl) ?_; refine tv (by first | exact o_load p33 rfl (by repeat (first | with_reducible exact has_here | with_reducible exact has_pt | apply has_left)) rfl | exact o_loadC p33 rfl (by assumption)) ?_; refine tv (o_fieldAddr (o := 0) Try.underlying35 rfl rfl sz33 rfl) ?_; refine tv (by first | exact o_load p33 rfl (by repeat (first | with_reducible exact has_here | with_reducible exact has_pt | apply has_left)) rfl | exact o_loadC p33 rfl (by assumption)) ?_; refine tv (o_nei rfl rfl) ?_; refine tlm ?_; refine tl_bool (d := 50) rfl (fun h => ?_) (fun h => ?_)
            · exfalso; first | (simp at h; omega)
            · try simp only [lv1, lv2, lv3, lv4, lv5, lv6, Bool.not_true, Bool.not_false] at h
              refine tv (o_fieldAddr (o := 2) Try.underlying35 rfl rfl sz5 rfl) ?_; refine tv (by first | exact o_load p5 rfl (by repeat (first | with_reducible exact has_here | with_reducible exact has_pt | apply has_left)) rfl | exact o_loadC p5 rfl (by assumption)) ?_; refine tv (o_fieldAddr (o := 2) Try.underlying35 rfl rfl sz5 rfl) ?_; refine tv (by first | exact o_load p5 rfl (by repeat (first | with_reducible exact has_here | with_reducible exact has_pt | apply has_left)) rfl | exact o_loadC p5 rfl (by assumption)) ?_; refine tv (o_nei rfl rfl) ?_; refine tv (o_pick_f rfl (by conv => lhs; whnf)) ?_; refine nq ?_; refine tc_cond rfl (fun h => ?_) (fun h => ?_)
              · exfalso; simp at h; omega
              · try simp only [lv1, lv2, lv3, lv4, lv5, lv6, Bool.not_true, Bool.not_false] at h
                refine tc_skip ?_; refine q_then_n ?_; refine tc_seq ?_; refine tc_block ?_; refine sr ?_; refine tv (o_fieldAddr (o := 1) Try.underlying35 rfl rfl sz3 rfl) ?_; refine tv (by first | exact o_load p3 rfl (by repeat (first | with_reducible exact has_here | with_reducible exact has_pt | apply has_left)) rfl | exact o_loadC p3 rfl (by assumption)) ?_; refine tv (o_fieldAddr (o := 0) Try.underlying24 rfl rfl sz3 rfl) ?_; refine tv (by first | exact o_load p3 rfl (by repeat (first | with_reducible exact has_here | with_reducible exact has_pt | apply has_left)) rfl | exact o_loadC p3 rfl (by assumption)) ?_; refine tv (o_lss rfl rfl) ?_; refine tla ?_; refine nq ?_; refine tc_cut (fun ρ BB => ρ 0 = .slice a13 L13.length c13 ∧ ρ 3 = .pointer (some ⟨b3, 0, none⟩) ∧ ρ 5 = .slice a19 M.length c19 ∧ ρ 7 = .int .i64 4398046511104 ∧ ρ 8 = .int .i64 (i : Nat) ∧ ρ 9 = .pointer (some ⟨b9, 0, none⟩) ∧ ρ 10 = .pointer (some ⟨b10, 0, none⟩) ∧ BB = F * pt b3 (cl E.cells 24) * Sl 3 (.slice a13 L13.length c13) L13.length (mcs L13) * Sl 3 (.slice a19 M.length c19) M.length (mcs M) * pt b9 (cl x.cells 35) * pt b10 (cl y.cells 35)) ?_ ?_
                · skip
                  refine tc_cond rfl (fun h => ?_) (fun h => ?_)
                  · try simp only [lv1, lv2, lv3, lv4, lv5, lv6, Bool.not_true, Bool.not_false] at h
                    refine sr ?_; refine tv (o_fieldAddr (o := 1) Try.underlying35 rfl rfl sz3 rfl) ?_; refine tv (by first | exact o_load p3 rfl (by repeat (first | with_reducible exact has_here | with_reducible exact has_pt | apply has_left)) rfl | exact o_loadC p3 rfl (by assumption)) ?_; refine tv (o_fieldAddr (o := 1) Try.underlying35 rfl rfl sz3 rfl) ?_; refine tv (by first | exact o_load p3 rfl (by repeat (first | with_reducible exact has_here | with_reducible exact has_pt | apply has_left)) rfl | exact o_loadC p3 rfl (by assumption)) ?_; refine tv (o_nei rfl rfl) ?_; refine nq ?_; refine tc_cond rfl (fun h => ?_) (fun h => ?_)
                    · exfalso; simp at h; omega
                    · try simp only [lv1, lv2, lv3, lv4, lv5, lv6, Bool.not_true, Bool.not_false] at h
                      refine tc_skip ?_; exact ⟨rfl, rfl, rfl, rfl, rfl, rfl, rfl, rfl⟩
                  · try simp only [lv1, lv2, lv3, lv4, lv5, lv6, Bool.not_true, Bool.not_false] at h
                    refine sr ?_; refine tv (o_fieldAddr (o := 1) Try.underlying35 rfl rfl sz3 rfl) ?_; refine tv (by first | exact o_load p3 rfl (by repeat (first | with_reducible exact has_here | with_reducible exact has_pt | apply has_left)) rfl | exact o_loadC p3 rfl (by assumption)) ?_; refine tv (o_fieldAddr (o := 0) Try.underlying24 rfl rfl sz3 rfl) ?_; refine tv (by first | exact o_load p3 rfl (by repeat (first | with_reducible exact has_here | with_reducible exact has_pt | apply has_left)) rfl | exact o_loadC p3 rfl (by assumption)) ?_; refine tv (o_fieldAddr (o := 1) Try.underlying24 rfl rfl sz3 rfl) ?_; refine tv (by first | exact o_load p3 rfl (by repeat (first | with_reducible exact has_here | with_reducible exact has_pt | apply has_left)) rfl | exact o_loadC p3 rfl (by assumption)) ?_; refine tv (by first | exact o_addI rfl rfl (by omega) | exact o_add rfl rfl) ?_; refine tv (o_gtr rfl rfl) ?_; refine tla ?_; refine nq ?_; refine tc_cond rfl (fun h => ?_) (fun h => ?_)
                    · try simp only [lv1, lv2, lv3, lv4, lv5, lv6, Bool.not_true, Bool.not_false] at h
                      refine sr ?_; refine tlm ?_; refine tv (o_fieldAddr (o := 1) Try.underlying24 rfl rfl sz3 rfl) ?_; refine tv (by first | exact o_load p3 rfl (by repeat (first | with_reducible exact has_here | with_reducible exact has_pt | apply has_left)) rfl | exact o_loadC p3 rfl (by assumption)) ?_; refine tv (o_subI rfl rfl (by omega)) ?_; refine tv (o_fieldAddr (o := 2) Try.underlying24 rfl rfl sz3 rfl) ?_; refine tv (by first | exact o_load p3 rfl (by repeat (first | with_reducible exact has_here | with_reducible exact has_pt | apply has_left)) rfl | exact o_loadC p3 rfl (by assumption)) ?_; refine tv (by first | exact o_addI rfl rfl (by omega) | exact o_add rfl rfl) ?_; refine tv (o_fieldAddr (o := 1) Try.underlying35 rfl rfl sz3 rfl) ?_; refine tv (by first | exact o_load p3 rfl (by repeat (first | with_reducible exact has_here | with_reducible exact has_pt | apply has_left)) rfl | exact o_loadC p3 rfl (by assumption)) ?_; refine tv (o_subI rfl rfl (by omega)) ?_; refine tlm ?_; refine tv (o_fieldAddr (o := 1) Try.underlying35 rfl rfl sz3 rfl) ?_; refine tv (by first | exact o_load p3 rfl (by repeat (first | with_reducible exact has_here | with_reducible exact has_pt | apply has_left)) rfl | exact o_loadC p3 rfl (by assumption)) ?_
                      refine tv (o_subI rfl rfl (by omega)) ?_; refine tv (o_nei rfl rfl) ?_; refine nq ?_; refine tc_cond rfl (fun h => ?_) (fun h => ?_)
                      · exfalso; simp at h; omega
                      · try simp only [lv1, lv2, lv3, lv4, lv5, lv6, Bool.not_true, Bool.not_false] at h
                        refine tc_skip ?_; exact ⟨rfl, rfl, rfl, rfl, rfl, rfl, rfl, rfl⟩
                    · try simp only [lv1, lv2, lv3, lv4, lv5, lv6, Bool.not_true, Bool.not_false] at h
                      refine sr ?_; refine tv (o_fieldAddr (o := 2) Try.underlying35 rfl rfl sz5 rfl) ?_; refine tv (by first | exact o_load p5 rfl (by repeat (first | with_reducible exact has_here | with_reducible exact has_pt | apply has_left)) rfl | exact o_loadC p5 rfl (by assumption)) ?_; refine tv (o_eqi rfl rfl) ?_; refine tlm ?_; refine tl_bool (d := 60) rfl (fun h => ?_) (fun h => ?_)
                      · have g60 : (x.gr = 0) := by first | exact of_decide_eq_true h | (have h2 := h; simp at h2; omega) | simpa using h
                        refine tv (o_fieldAddr (o := 1) Try.underlying35 rfl rfl sz3 rfl) ?_; refine tv (by first | exact o_load p3 rfl (by repeat (first | with_reducible exact has_here | with_reducible exact has_pt | apply has_left)) rfl | exact o_loadC p3 rfl (by assumption)) ?_; refine tv (o_fieldAddr (o := 0) Try.underlying24 rfl rfl sz3 rfl) ?_; refine tv (by first | exact o_load p3 rfl (by repeat (first | with_reducible exact has_here | with_reducible exact has_pt | apply has_left)) rfl | exact o_loadC p3 rfl (by assumption)) ?_; refine tv (o_nei rfl rfl) ?_; refine tv (o_pick_t rfl (by conv => lhs; whnf)) ?_; refine tlm ?_; refine tl_bool (d := 67) rfl (fun h => ?_) (fun h => ?_)
                        · exfalso; simp at h; omega
                        · try simp only [lv1, lv2, lv3, lv4, lv5, lv6, Bool.not_true, Bool.not_false] at h
                          refine tv (o_fieldAddr (o := 2) Try.underlying35 rfl rfl sz5 rfl) ?_; refine tv (by first | exact o_load p5 rfl (by repeat (first | with_reducible exact has_here | with_reducible exact has_pt | apply has_left)) rfl | exact o_loadC p5 rfl (by assumption)) ?_; refine tv (o_eqi rfl rfl) ?_; refine tlm ?_; refine tl_bool (d := 71) rfl (fun h => ?_) (fun h => ?_)
                          · have g71 : (x.gr = 1) := by first | exact of_decide_eq_true h | (have h2 := h; simp at h2; omega) | simpa using h
                            refine tv (o_fieldAddr (o := 1) Try.underlying35 rfl rfl sz3 rfl) ?_; refine tv (by first | exact o_load p3 rfl (by repeat (first | with_reducible exact has_here | with_reducible exact has_pt | apply has_left)) rfl | exact o_loadC p3 rfl (by assumption)) ?_; refine tv (o_fieldAddr (o := 0) Try.underlying24 rfl rfl sz3 rfl) ?_; refine tv (by first | exact o_load p3 rfl (by repeat (first | with_reducible exact has_here | with_reducible exact has_pt | apply has_left)) rfl | exact o_loadC p3 rfl (by assumption)) ?_; refine tv (o_fieldAddr (o := 2) Try.underlying24 rfl rfl sz3 rfl) ?_; refine tv (by first | exact o_load p3 rfl (by repeat (first | with_reducible exact has_here | with_reducible exact has_pt | apply has_left)) rfl | exact o_loadC p3 rfl (by assumption)) ?_; refine tv (by first | exact o_addI rfl rfl (by omega) | exact o_add rfl rfl) ?_; refine tv (o_nei rfl rfl) ?_; refine tv (o_pick_t rfl (by conv => lhs; whnf)) ?_; refine tv (o_pick_f rfl (by conv => lhs; whnf)) ?_; refine nq ?_; refine tc_cond rfl (fun h => ?_) (fun h => ?_)
                            · exfalso; simp at h; omega
                            · try simp only [lv1, lv2, lv3, lv4, lv5, lv6, Bool.not_true, Bool.not_false] at h
                              refine tc_skip ?_; exact ⟨rfl, rfl, rfl, rfl, rfl, rfl, rfl, rfl⟩
                          · have g71 : ¬ (x.gr = 1) := by first | exact of_decide_eq_false h | (have h2 := h; simp at h2; omega) | simpa using h
                            refine tk ?_; refine tk ?_; refine tk ?_; refine tk ?_; refine tk ?_; refine tk ?_; refine tk ?_; refine tk ?_; refine tv (o_pick_f rfl (by conv => lhs; whnf)) ?_; refine tv (o_pick_f rfl (by conv => lhs; whnf)) ?_; refine nq ?_; refine tc_cond_f rfl ?_; refine tc_skip ?_; exact ⟨rfl, rfl, rfl, rfl, rfl, rfl, rfl, rfl⟩
                      · have g60 : ¬ (x.gr = 0) := by first | exact of_decide_eq_false h | (have h2 := h; simp at h2; omega) | simpa using h
                        refine tk ?_; refine tk ?_; refine tk ?_; refine tk ?_; refine tk ?_; refine tv (o_pick_f rfl (by conv => lhs; whnf)) ?_; refine tlm ?_; refine tv (o_fieldAddr (o := 2) Try.underlying35 rfl rfl sz5 rfl) ?_; refine tv (by first | exact o_load p5 rfl (by repeat (first | with_reducible exact has_here | with_reducible exact has_pt | apply has_left)) rfl | exact o_loadC p5 rfl (by assumption)) ?_; refine tv (o_eqi rfl rfl) ?_; refine tlm ?_; refine tl_bool (d := 71) rfl (fun h => ?_) (fun h => ?_)
                        · have g71 : (x.gr = 1) := by first | exact of_decide_eq_true h | (have h2 := h; simp at h2; omega) | simpa using h
                          refine tv (o_fieldAddr (o := 1) Try.underlying35 rfl rfl sz3 rfl) ?_; refine tv (by first | exact o_load p3 rfl (by repeat (first | with_reducible exact has_here | with_reducible exact has_pt | apply has_left)) rfl | exact o_loadC p3 rfl (by assumption)) ?_; refine tv (o_fieldAddr (o := 0) Try.underlying24 rfl rfl sz3 rfl) ?_; refine tv (by first | exact o_load p3 rfl (by repeat (first | with_reducible exact has_here | with_reducible exact has_pt | apply has_left)) rfl | exact o_loadC p3 rfl (by assumption)) ?_; refine tv (o_fieldAddr (o := 2) Try.underlying24 rfl rfl sz3 rfl) ?_; refine tv (by first | exact o_load p3 rfl (by repeat (first | with_reducible exact has_here | with_reducible exact has_pt | apply has_left)) rfl | exact o_loadC p3 rfl (by assumption)) ?_; refine tv (by first | exact o_addI rfl rfl (by omega) | exact o_add rfl rfl) ?_; refine tv (o_nei rfl rfl) ?_; refine tv (o_pick_t rfl (by conv => lhs; whnf)) ?_; refine tv (o_pick_f rfl (by conv => lhs; whnf)) ?_; refine nq ?_; refine tc_cond rfl (fun h => ?_) (fun h => ?_)
                          · exfalso; simp at h; omega
                          · try simp only [lv1, lv2, lv3, lv4, lv5, lv6, Bool.not_true, Bool.not_false] at h
                            refine tc_skip ?_; exact ⟨rfl, rfl, rfl, rfl, rfl, rfl, rfl, rfl⟩
                        · have g71 : ¬ (x.gr = 1) := by first | exact of_decide_eq_false h | (have h2 := h; simp at h2; omega) | simpa using h
                          refine tk ?_; refine tk ?_; refine tk ?_; refine tk ?_; refine tk ?_; refine tk ?_; refine tk ?_; refine tk ?_; refine tv (o_pick_f rfl (by conv => lhs; whnf)) ?_; refine tv (o_pick_f rfl (by conv => lhs; whnf)) ?_; refine nq ?_; refine tc_cond_f rfl ?_; refine tc_skip ?_; exact ⟨rfl, rfl, rfl, rfl, rfl, rfl, rfl, rfl⟩
                · intro ρ B hI
                  obtain ⟨hE0, hE3, hE5, hE7, hE8, hE9, hE10, rfl⟩ := hI
                  refine q_block_n (q_then_n ?_); refine tc_env (d := 0) hE0 ?_; refine tc_env (d := 3) hE3 ?_; refine tc_env (d := 5) hE5 ?_; refine tc_env (d := 7) hE7 ?_; refine tc_env (d := 8) hE8 ?_; refine tc_env (d := 9) hE9 ?_; refine tc_env (d := 10) hE10 ?_
                  clear hE0 hE3 hE5 hE7 hE8 hE9 hE10
                  refine sr ?_; refine tla ?_; refine nq ?_; refine tc_block ?_; refine tc_loop (fun kk ρ BB => ∃ (k : Nat), (k ≤ i) ∧ kk = i - k ∧ ρ 11 = .int .i64 (k : Nat) ∧ ρ 0 = .slice a13 L13.length c13 ∧ ρ 3 = .pointer (some ⟨b3, 0, none⟩) ∧ ρ 5 = .slice a19 M.length c19 ∧ ρ 7 = .int .i64 4398046511104 ∧ ρ 8 = .int .i64 (i : Nat) ∧ ρ 9 = .pointer (some ⟨b9, 0, none⟩) ∧ ρ 10 = .pointer (some ⟨b10, 0, none⟩) ∧ BB = F * pt b3 (cl E.cells 24) * Sl 3 (.slice a13 L13.length c13) L13.length (mcs L13) * Sl 3 (.slice a19 M.length c19) M.length (mcs M) * pt b9 (cl x.cells 35) * pt b10 (cl y.cells 35)) (m := i - (0)) ?_ ?_
                  · exact ⟨0, by omega, rfl, rfl, rfl, rfl, rfl, rfl, rfl, rfl, rfl, rfl⟩
                  · intro k ρ B hI
                    obtain ⟨k, hq0, hkk2, hE11, hE0, hE3, hE5, hE7, hE8, hE9, hE10, rfl⟩ := hI
                    refine tc_env (d := 11) hE11 ?_; refine tc_env (d := 0) hE0 ?_; refine tc_env (d := 3) hE3 ?_; refine tc_env (d := 5) hE5 ?_; refine tc_env (d := 7) hE7 ?_; refine tc_env (d := 8) hE8 ?_; refine tc_env (d := 9) hE9 ?_; refine tc_env (d := 10) hE10 ?_
                    clear hE11 hE0 hE3 hE5 hE7 hE8 hE9 hE10
                    refine tc_seq ?_; refine sr ?_; refine tlm ?_; refine tlm ?_; refine tv (o_lss rfl rfl) ?_; refine nq ?_; refine tc_cond rfl (fun h => ?_) (fun h => ?_)
                    · have hk : k < L13.length := by first | omega | (simp at h; omega)
                      have hki : k < i := by first | omega | (simp at h; omega)
                      have hk2 : k < M.length := by omega
                      obtain ⟨v1, v2, v3⟩ := hMat k hk
                      obtain ⟨u0, u1, u2, u4⟩ := hL13.at_ k hk
                      obtain ⟨u, hu⟩ : ∃ x, L13[k] = x := ⟨_, rfl⟩
                      obtain ⟨v, hv⟩ : ∃ y, M[k] = y := ⟨_, rfl⟩
                      rw [hu] at v1 v2 v3 u0 u1 u2 u4
                      rw [hv] at v1 v2 v3
                      refine tc_skip ?_; refine q_then_n ?_; refine tc_seq ?_; refine tc_block ?_; refine tc_seq ?_; refine tc_regq mo (by kernel_rfl) ?_; refine ql_v rfl (o_move (by conv => lhs; whnf)) ?_; refine ql_v rfl (o_move (by conv => lhs; whnf)) ?_; refine ql_v rfl (o_ixP (a := a13) Try.underlying22 sz35 rfl rfl (by omega) (nn_rs (by repeat (first | with_reducible exact rs_sl | assumption | apply Rs.left)) (fun _ => by rw [mcs_len]; omega))) ?_; refine ql_v rfl (o_faP (a := a13) (m := 0) (o := 2) Try.underlying35 rfl rfl sz5 rfl (nn_rs (by repeat (first | with_reducible exact rs_sl | assumption | apply Rs.left)) (fun _ => by rw [mcs_len]; omega))) ?_; refine ql_v rfl (o_ldP (a := a13) p5 rfl (by repeat (first | with_reducible exact rs_sl | assumption | apply Rs.left)) (by rw [mcs_f2 (by omega)])) ?_; refine ql_env (d := 126) (v := .int .u8 (u.gr : Nat)) (by rw [← hu]; rfl) ?_; refine ql_v rfl (o_fieldAddr (o := 2) Try.underlying35 rfl rfl sz5 rfl) ?_; refine ql_v rfl (by first | exact o_load p5 rfl (by repeat (first | with_reducible exact has_here | with_reducible exact has_pt | apply has_left)) rfl | exact o_loadC p5 rfl (by assumption)) ?_; refine ql_v rfl (o_eqi rfl rfl) ?_; refine ql_v rfl (o_move (by conv => lhs; whnf)) ?_
                      refine ql_bool (d := 130) rfl (fun h => ?_) (fun h => ?_)
                      · have g130 : (u.gr = x.gr) := by first | exact of_decide_eq_true h | (have h2 := h; simp at h2; omega) | simpa using h
                        refine ql_v rfl (o_move (by conv => lhs; whnf)) ?_; refine ql_v rfl (o_move (by conv => lhs; whnf)) ?_; refine ql_v rfl (o_ixP (a := a13) Try.underlying22 sz35 rfl rfl (by omega) (nn_rs (by repeat (first | with_reducible exact rs_sl | assumption | apply Rs.left)) (fun _ => by rw [mcs_len]; omega))) ?_; refine ql_v rfl (o_faP (a := a13) (m := 0) (o := 1) Try.underlying35 rfl rfl sz3 rfl (nn_rs (by repeat (first | with_reducible exact rs_sl | assumption | apply Rs.left)) (fun _ => by rw [mcs_len]; omega))) ?_; refine ql_v rfl (o_ldP (a := a13) p3 rfl (by repeat (first | with_reducible exact rs_sl | assumption | apply Rs.left)) (by rw [mcs_f1 (by omega)])) ?_; refine ql_env (d := 135) (v := .int .i64 u.at_) (by rw [← hu]; rfl) ?_; refine ql_v rfl (o_fieldAddr (o := 1) Try.underlying35 rfl rfl sz3 rfl) ?_; refine ql_v rfl (by first | exact o_load p3 rfl (by repeat (first | with_reducible exact has_here | with_reducible exact has_pt | apply has_left)) rfl | exact o_loadC p3 rfl (by assumption)) ?_; refine ql_v rfl (o_leq rfl rfl) ?_; refine ql_v rfl (o_move (by conv => lhs; whnf)) ?_; refine ql_bool (d := 139) rfl (fun h => ?_) (fun h => ?_)
                        · have g139 : (u.at_ ≤ x.at_) := by first | exact of_decide_eq_true h | (have h2 := h; simp at h2; omega) | simpa using h
                          refine ql_v rfl (o_move (by conv => lhs; whnf)) ?_; refine ql_v rfl (o_move (by conv => lhs; whnf)) ?_; refine ql_v rfl (o_ixP (a := a19) Try.underlying22 sz35 rfl rfl (by omega) (nn_rs (by repeat (first | with_reducible exact rs_sl | assumption | apply Rs.left)) (fun _ => by rw [mcs_len]; omega))) ?_; refine ql_v rfl (o_faP (a := a19) (m := 0) (o := 1) Try.underlying35 rfl rfl sz3 rfl (nn_rs (by repeat (first | with_reducible exact rs_sl | assumption | apply Rs.left)) (fun _ => by rw [mcs_len]; omega))) ?_; refine ql_v rfl (o_ldP (a := a19) p3 rfl (by repeat (first | with_reducible exact rs_sl | assumption | apply Rs.left)) (by rw [mcs_f1 (by omega)])) ?_; refine ql_env (d := 144) (v := .int .i64 v.at_) (by rw [← hv]; rfl) ?_; refine ql_v rfl (o_fieldAddr (o := 1) Try.underlying35 rfl rfl sz3 rfl) ?_; refine ql_v rfl (by first | exact o_load p3 rfl (by repeat (first | with_reducible exact has_here | with_reducible exact has_pt | apply has_left)) rfl | exact o_loadC p3 rfl (by assumption)) ?_; refine ql_v rfl (o_gtr rfl rfl) ?_; refine ql_v rfl (o_pick_t rfl (by conv => lhs; whnf)) ?_; refine ql_v rfl (o_move (by conv => lhs; whnf)) ?_; refine ql_bool (d := 149) rfl (fun h => ?_) (fun h => ?_)
                          · exfalso; simp at h; omega
                          · try simp only [lv1, lv2, lv3, lv4, lv5, lv6, Bool.not_true, Bool.not_false] at h
                            refine ql_v rfl (o_move (by conv => lhs; whnf)) ?_; refine ql_v rfl (o_move (by conv => lhs; whnf)) ?_; refine ql_v rfl (o_ixP (a := a13) Try.underlying22 sz35 rfl rfl (by omega) (nn_rs (by repeat (first | with_reducible exact rs_sl | assumption | apply Rs.left)) (fun _ => by rw [mcs_len]; omega))) ?_; refine ql_v rfl (o_faP (a := a13) (m := 0) (o := 1) Try.underlying35 rfl rfl sz3 rfl (nn_rs (by repeat (first | with_reducible exact rs_sl | assumption | apply Rs.left)) (fun _ => by rw [mcs_len]; omega))) ?_; refine ql_v rfl (o_ldP (a := a13) p3 rfl (by repeat (first | with_reducible exact rs_sl | assumption | apply Rs.left)) (by rw [mcs_f1 (by omega)])) ?_; refine ql_env (d := 154) (v := .int .i64 u.at_) (by rw [← hu]; rfl) ?_; refine ql_v rfl (o_fieldAddr (o := 1) Try.underlying35 rfl rfl sz3 rfl) ?_; refine ql_v rfl (by first | exact o_load p3 rfl (by repeat (first | with_reducible exact has_here | with_reducible exact has_pt | apply has_left)) rfl | exact o_loadC p3 rfl (by assumption)) ?_; refine ql_v rfl (o_geq rfl rfl) ?_; refine ql_v rfl (o_move (by conv => lhs; whnf)) ?_; refine ql_bool (d := 158) rfl (fun h => ?_) (fun h => ?_)
                            · have g158 : (x.at_ ≤ u.at_) := by first | exact of_decide_eq_true h | (have h2 := h; simp at h2; omega) | simpa using h
                              refine ql_v rfl (o_move (by conv => lhs; whnf)) ?_; refine ql_v rfl (o_move (by conv => lhs; whnf)) ?_; refine ql_v rfl (o_ixP (a := a19) Try.underlying22 sz35 rfl rfl (by omega) (nn_rs (by repeat (first | with_reducible exact rs_sl | assumption | apply Rs.left)) (fun _ => by rw [mcs_len]; omega))) ?_; refine ql_v rfl (o_faP (a := a19) (m := 0) (o := 1) Try.underlying35 rfl rfl sz3 rfl (nn_rs (by repeat (first | with_reducible exact rs_sl | assumption | apply Rs.left)) (fun _ => by rw [mcs_len]; omega))) ?_; refine ql_v rfl (o_ldP (a := a19) p3 rfl (by repeat (first | with_reducible exact rs_sl | assumption | apply Rs.left)) (by rw [mcs_f1 (by omega)])) ?_; refine ql_env (d := 163) (v := .int .i64 v.at_) (by rw [← hv]; rfl) ?_; refine ql_v rfl (o_fieldAddr (o := 1) Try.underlying35 rfl rfl sz3 rfl) ?_; refine ql_v rfl (by first | exact o_load p3 rfl (by repeat (first | with_reducible exact has_here | with_reducible exact has_pt | apply has_left)) rfl | exact o_loadC p3 rfl (by assumption)) ?_; refine ql_v rfl (o_lss rfl rfl) ?_; refine ql_v rfl (o_pick_t rfl (by conv => lhs; whnf)) ?_; refine ql_v rfl (o_pick_f rfl (by conv => lhs; whnf)) ?_; refine ql_v rfl (o_pick_t rfl (by conv => lhs; whnf)) ?_
                              refine ql_nil ?_; refine q_then_n ?_; refine tc_cond rfl (fun h => ?_) (fun h => ?_)
                              · exfalso; simp at h; omega
                              · try simp only [lv1, lv2, lv3, lv4, lv5, lv6, Bool.not_true, Bool.not_false] at h
                                refine tc_skip ?_; refine q_block_n (q_then_n ?_); refine tc_reg ?_; refine tlm ?_; refine tv (by first | exact o_addI rfl rfl (by omega) | exact o_add rfl rfl) ?_; refine tla ?_; refine nq ?_; exact ⟨_, by omega, k + 1, by omega, rfl, rfl, rfl, rfl, rfl, rfl, rfl, rfl, rfl, rfl⟩
                            · have g158 : ¬ (x.at_ ≤ u.at_) := by first | exact of_decide_eq_false h | (have h2 := h; simp at h2; omega) | simpa using h
                              refine ql_skip rfl ?_; refine ql_skip rfl ?_; refine ql_skip rfl ?_; refine ql_skip rfl ?_; refine ql_skip rfl ?_; refine ql_skip rfl ?_; refine ql_skip rfl ?_; refine ql_skip rfl ?_; refine ql_v rfl (o_pick_f rfl (by conv => lhs; whnf)) ?_; refine ql_v rfl (o_pick_f rfl (by conv => lhs; whnf)) ?_; refine ql_v rfl (o_pick_t rfl (by conv => lhs; whnf)) ?_; refine ql_nil ?_; refine q_then_n ?_; refine tc_cond_f rfl ?_; refine tc_skip ?_; refine q_block_n (q_then_n ?_); refine tc_reg ?_; refine tlm ?_; refine tv (by first | exact o_addI rfl rfl (by omega) | exact o_add rfl rfl) ?_; refine tla ?_; refine nq ?_; exact ⟨_, by omega, k + 1, by omega, rfl, rfl, rfl, rfl, rfl, rfl, rfl, rfl, rfl, rfl⟩
                        · have g139 : ¬ (u.at_ ≤ x.at_) := by first | exact of_decide_eq_false h | (have h2 := h; simp at h2; omega) | simpa using h
                          refine ql_skip rfl ?_; refine ql_skip rfl ?_; refine ql_skip rfl ?_; refine ql_skip rfl ?_; refine ql_skip rfl ?_; refine ql_skip rfl ?_; refine ql_skip rfl ?_; refine ql_skip rfl ?_; refine ql_v rfl (o_pick_f rfl (by conv => lhs; whnf)) ?_; refine ql_v rfl (o_move (by conv => lhs; whnf)) ?_; refine ql_v rfl (o_move (by conv => lhs; whnf)) ?_; refine ql_v rfl (o_move (by conv => lhs; whnf)) ?_; refine ql_v rfl (o_ixP (a := a13) Try.underlying22 sz35 rfl rfl (by omega) (nn_rs (by repeat (first | with_reducible exact rs_sl | assumption | apply Rs.left)) (fun _ => by rw [mcs_len]; omega))) ?_; refine ql_v rfl (o_faP (a := a13) (m := 0) (o := 1) Try.underlying35 rfl rfl sz3 rfl (nn_rs (by repeat (first | with_reducible exact rs_sl | assumption | apply Rs.left)) (fun _ => by rw [mcs_len]; omega))) ?_; refine ql_v rfl (o_ldP (a := a13) p3 rfl (by repeat (first | with_reducible exact rs_sl | assumption | apply Rs.left)) (by rw [mcs_f1 (by omega)])) ?_; refine ql_env (d := 154) (v := .int .i64 u.at_) (by rw [← hu]; rfl) ?_; refine ql_v rfl (o_fieldAddr (o := 1) Try.underlying35 rfl rfl sz3 rfl) ?_
                          refine ql_v rfl (by first | exact o_load p3 rfl (by repeat (first | with_reducible exact has_here | with_reducible exact has_pt | apply has_left)) rfl | exact o_loadC p3 rfl (by assumption)) ?_; refine ql_v rfl (o_geq rfl rfl) ?_; refine ql_v rfl (o_move (by conv => lhs; whnf)) ?_; refine ql_bool (d := 158) rfl (fun h => ?_) (fun h => ?_)
                          · have g158 : (x.at_ ≤ u.at_) := by first | exact of_decide_eq_true h | (have h2 := h; simp at h2; omega) | simpa using h
                            refine ql_v rfl (o_move (by conv => lhs; whnf)) ?_; refine ql_v rfl (o_move (by conv => lhs; whnf)) ?_; refine ql_v rfl (o_ixP (a := a19) Try.underlying22 sz35 rfl rfl (by omega) (nn_rs (by repeat (first | with_reducible exact rs_sl | assumption | apply Rs.left)) (fun _ => by rw [mcs_len]; omega))) ?_; refine ql_v rfl (o_faP (a := a19) (m := 0) (o := 1) Try.underlying35 rfl rfl sz3 rfl (nn_rs (by repeat (first | with_reducible exact rs_sl | assumption | apply Rs.left)) (fun _ => by rw [mcs_len]; omega))) ?_; refine ql_v rfl (o_ldP (a := a19) p3 rfl (by repeat (first | with_reducible exact rs_sl | assumption | apply Rs.left)) (by rw [mcs_f1 (by omega)])) ?_; refine ql_env (d := 163) (v := .int .i64 v.at_) (by rw [← hv]; rfl) ?_; refine ql_v rfl (o_fieldAddr (o := 1) Try.underlying35 rfl rfl sz3 rfl) ?_; refine ql_v rfl (by first | exact o_load p3 rfl (by repeat (first | with_reducible exact has_here | with_reducible exact has_pt | apply has_left)) rfl | exact o_loadC p3 rfl (by assumption)) ?_; refine ql_v rfl (o_lss rfl rfl) ?_; refine ql_v rfl (o_pick_t rfl (by conv => lhs; whnf)) ?_; refine ql_v rfl (o_pick_f rfl (by conv => lhs; whnf)) ?_; refine ql_v rfl (o_pick_t rfl (by conv => lhs; whnf)) ?_
                            refine ql_nil ?_; refine q_then_n ?_; refine tc_cond rfl (fun h => ?_) (fun h => ?_)
                            · exfalso; simp at h; omega
                            · try simp only [lv1, lv2, lv3, lv4, lv5, lv6, Bool.not_true, Bool.not_false] at h
                              refine tc_skip ?_; refine q_block_n (q_then_n ?_); refine tc_reg ?_; refine tlm ?_; refine tv (by first | exact o_addI rfl rfl (by omega) | exact o_add rfl rfl) ?_; refine tla ?_; refine nq ?_; exact ⟨_, by omega, k + 1, by omega, rfl, rfl, rfl, rfl, rfl, rfl, rfl, rfl, rfl, rfl⟩
                          · have g158 : ¬ (x.at_ ≤ u.at_) := by first | exact of_decide_eq_false h | (have h2 := h; simp at h2; omega) | simpa using h
                            refine ql_skip rfl ?_; refine ql_skip rfl ?_; refine ql_skip rfl ?_; refine ql_skip rfl ?_; refine ql_skip rfl ?_; refine ql_skip rfl ?_; refine ql_skip rfl ?_; refine ql_skip rfl ?_; refine ql_v rfl (o_pick_f rfl (by conv => lhs; whnf)) ?_; refine ql_v rfl (o_pick_f rfl (by conv => lhs; whnf)) ?_; refine ql_v rfl (o_pick_t rfl (by conv => lhs; whnf)) ?_; refine ql_nil ?_; refine q_then_n ?_; refine tc_cond_f rfl ?_; refine tc_skip ?_; refine q_block_n (q_then_n ?_); refine tc_reg ?_; refine tlm ?_; refine tv (by first | exact o_addI rfl rfl (by omega) | exact o_add rfl rfl) ?_; refine tla ?_; refine nq ?_; exact ⟨_, by omega, k + 1, by omega, rfl, rfl, rfl, rfl, rfl, rfl, rfl, rfl, rfl, rfl⟩
                      · have g130 : ¬ (u.gr = x.gr) := by first | exact of_decide_eq_false h | (have h2 := h; simp at h2; omega) | simpa using h
                        refine ql_skip rfl ?_; refine ql_skip rfl ?_; refine ql_skip rfl ?_; refine ql_skip rfl ?_; refine ql_skip rfl ?_; refine ql_skip rfl ?_; refine ql_skip rfl ?_; refine ql_skip rfl ?_; refine ql_skip rfl ?_; refine ql_skip rfl ?_; refine ql_skip rfl ?_; refine ql_skip rfl ?_; refine ql_skip rfl ?_; refine ql_skip rfl ?_; refine ql_skip rfl ?_; refine ql_skip rfl ?_; refine ql_skip rfl ?_; refine ql_skip rfl ?_; refine ql_skip rfl ?_; refine ql_skip rfl ?_; refine ql_skip rfl ?_; refine ql_skip rfl ?_; refine ql_skip rfl ?_; refine ql_skip rfl ?_; refine ql_skip rfl ?_; refine ql_skip rfl ?_; refine ql_skip rfl ?_; refine ql_skip rfl ?_; refine ql_skip rfl ?_; refine ql_skip rfl ?_; refine ql_skip rfl ?_; refine ql_skip rfl ?_; refine ql_skip rfl ?_; refine ql_skip rfl ?_
                        refine ql_skip rfl ?_; refine ql_skip rfl ?_; refine ql_skip rfl ?_; refine ql_skip rfl ?_; refine ql_v rfl (o_pick_f rfl (by conv => lhs; whnf)) ?_; refine ql_nil ?_; refine q_then_n ?_; refine tc_cond_f rfl ?_; refine tc_skip ?_; refine q_block_n (q_then_n ?_); refine tc_reg ?_; refine tlm ?_; refine tv (by first | exact o_addI rfl rfl (by omega) | exact o_add rfl rfl) ?_; refine tla ?_; refine nq ?_; exact ⟨_, by omega, k + 1, by omega, rfl, rfl, rfl, rfl, rfl, rfl, rfl, rfl, rfl, rfl⟩
                    · try simp only [lv1, lv2, lv3, lv4, lv5, lv6, Bool.not_true, Bool.not_false] at h
                      refine tc_exit ?_; refine q_then_e (q_then_e (q_block_x (q_block_n (q_then_n ?_)))); refine tc_reg ?_; refine tlm ?_; refine tv (by first | exact o_addI rfl rfl (by omega) | exact o_add rfl rfl) ?_; refine tla ?_; refine nq ?_; exact ⟨_, by omega, i + 1, by omega, rfl, rfl, rfl, rfl, rfl, rfl, (by repeat (first | with_reducible exact dr_refl | apply dr_keep | apply dr_drop))⟩
        · have hck : checkS M (4398046511104 - E.out + E.inn) = 0 := by subst hM; exact go_check hL13 hgo hN
          refine tc_exit ?_; refine q_then_e (q_then_e (q_block_x (q_then_n ?_))); refine sr ?_; refine tlm ?_; refine tlm ?_; refine tv (o_fieldAddr (o := 1) Try.underlying24 rfl rfl sz3 rfl) ?_; refine tv (by first | exact o_load p3 rfl (by repeat (first | with_reducible exact has_here | with_reducible exact has_pt | apply has_left)) rfl | exact o_loadC p3 rfl (by assumption)) ?_; refine tv (o_subI rfl rfl (by omega)) ?_; refine tv (o_fieldAddr (o := 2) Try.underlying24 rfl rfl sz3 rfl) ?_; refine tv (by first | exact o_load p3 rfl (by repeat (first | with_reducible exact has_here | with_reducible exact has_pt | apply has_left)) rfl | exact o_loadC p3 rfl (by assumption)) ?_; refine tv (by first | exact o_addI rfl rfl (by omega) | exact o_add rfl rfl) ?_; refine tl_c rfl (o_call bd18 rfl (Check_c (l := M) (n := M.length) (z := 4398046511104 - E.out + E.inn) (hr := (by repeat (first | with_reducible exact rs_sl | assumption | apply Rs.left))) (hs := by have := hL13.len; omega))) ?_; rintro _ _ ⟨rfl, rfl⟩; refine tl_env (d := 178) (v := .int .i64 0) (by show Value.int .i64 _ = _; rw [hck]) ?_; refine tv (o_eqi rfl rfl) ?_; refine tlm ?_; refine tl_bool (d := 180) rfl (fun h => ?_) (fun h => ?_)
          · try simp only [lv1, lv2, lv3, lv4, lv5, lv6, Bool.not_true, Bool.not_false] at h
            refine tl_c rfl (o_call bd15 rfl (worksM_c)) ?_; rintro _ _ ⟨rfl, rfl⟩; refine tv (o_pick_t rfl (by conv => lhs; whnf)) ?_; refine tla ?_; refine nq ?_; refine tc_ret ?_; exact ⟨.bool true, F, res1 rfl rfl, Dr.sat (by repeat (first | with_reducible exact dr_refl | apply dr_keep | apply dr_drop)), rfl, rfl⟩
          · exfalso; simp at h
end Go.Vl

set_option linter.unusedVariables false
set_option linter.unusedSimpArgs false
namespace Go.Vl
open Go Go.Proofs
theorem flatG {α : Type} {f : α → List Value} : ∀ {Cs : List (List Value)} {xs : List α} (_ : Cs.length = xs.length) (_ : ∀ i (h : i < xs.length) (h' : i < Cs.length), Cs[i] = f xs[i]), Cs.flatten = xs.flatMap f
  | [], [], _, _ => rfl
  | c :: Cs, x :: xs, hl, h => by
    have h0 := h 0 (by simp) (by simp)
    simp only [List.getElem_cons_zero] at h0
    rw [List.flatten_cons, h0, flatG (f := f) (Cs := Cs) (xs := xs) (by simpa using hl) (fun i hi hi' => h (i + 1) (by simpa using hi) (by simpa using hi')), List.flatMap_cons]
theorem three_ofG {α : Type} : ∀ {l : List α}, l.length = 3 → ∃ a b c, l = [a, b, c]
  | [a, b, c], _ => ⟨a, b, c, rfl⟩
set_option maxRecDepth 20000 in
theorem rdb_mk (W : World) : Rdb Try.prog W 35 (fun cs (x : Mk) => cs = x.cells ∧ MkW x) := fun H enc sp hd fu cs d pl h hw => by
  obtain ⟨hl, hf⟩ := rdb_fields Try.underlying35 h hw
  have hc : Try.prog.cellsOf 35 = 3 := by kernel_rfl
  have hci : Try.prog.cellsOf 3 = 1 := by kernel_rfl
  have hc3 : Try.prog.cellsOf 33 = 1 := by kernel_rfl
  have hc8 : Try.prog.cellsOf 5 = 1 := by kernel_rfl
  rw [hc] at hl
  obtain ⟨x, e0, w0⟩ := hf 0 _ rfl (rdb_int Try.underlying33)
  obtain ⟨y, e1, w1⟩ := hf 1 _ rfl (rdb_int Try.underlying3)
  obtain ⟨z, e2, w2⟩ := hf 2 _ rfl (rdb_int Try.underlying5)
  obtain ⟨c0, c1, c2, rfl⟩ := three_ofG hl
  simp [hc3] at e0
  simp [hci] at e1
  simp [hc8] at e2
  subst e0 e1 e2
  have b0 := Go.bounds_u32 w0
  have b2 := Go.bounds_u8 w2
  obtain ⟨i, rfl⟩ := Int.eq_ofNat_of_zero_le b0.1
  obtain ⟨g, rfl⟩ := Int.eq_ofNat_of_zero_le b2.1
  exact ⟨⟨i, y, g⟩, rfl, ⟨by show i < 4294967296; omega, i64_wf w1, by show g < 256; omega⟩⟩
def PMkG (A : SP) (cs : List Value) (l : List Mk) : Prop := ∃ a c, cs = [.slice a l.length c] ∧ l.length ≤ c ∧ l.length * 24 ≤ reachBytes ∧ Rs A a (mcs l) ∧ ∀ x ∈ l, MkW x
theorem rdb_mks (W : World) : Rdb Try.prog W 22 (PMkG (old W)) :=
  (rdb_slice (k := 3) (b := 24) Try.underlying22 (by kernel_rfl) (by kernel_rfl) (by decide) (rdb_mk W)).mono fun cs xs ⟨a, cap, Cs, e1, hc, hs, hl, hx, hr⟩ => by
    refine ⟨xs, ⟨a, cap, e1, hc, hs, ?_, fun x hx' => ?_⟩⟩
    · rw [show mcs xs = Cs.flatten from (flatG hl (fun i h h' => (hx i h h').2.1)).symm]; exact hr
    · obtain ⟨i, hi, rfl⟩ := List.mem_iff_getElem.1 hx'
      exact (hx i hi (by omega)).2.2
set_option maxRecDepth 20000 in
theorem rdb_ed (W : World) : Rdb Try.prog W 24 (fun cs (x : Ed) => cs = x.cells ∧ EdW x) := fun H enc sp hd fu cs d pl h hw => by
  obtain ⟨hl, hf⟩ := rdb_fields Try.underlying24 h hw
  have hc : Try.prog.cellsOf 24 = 3 := by kernel_rfl
  have hci : Try.prog.cellsOf 3 = 1 := by kernel_rfl
  rw [hc] at hl
  obtain ⟨x, e0, w0⟩ := hf 0 _ rfl (rdb_int Try.underlying3)
  obtain ⟨y, e1, w1⟩ := hf 1 _ rfl (rdb_int Try.underlying3)
  obtain ⟨z, e2, w2⟩ := hf 2 _ rfl (rdb_int Try.underlying3)
  obtain ⟨c0, c1, c2, rfl⟩ := three_ofG hl
  simp [hci] at e0
  simp [hci] at e1
  simp [hci] at e2
  subst e0 e1 e2
  exact ⟨⟨x, y, z⟩, rfl, ⟨i64_wf w0, i64_wf w1, i64_wf w2⟩⟩
theorem reach_mk {n : Nat} (h : n * 24 ≤ reachBytes) : n ≤ 1125899906842624 := by
  have : reachBytes ≤ 140737488355328 := by decide
  omega
theorem MarksGo_L (F : SP) (v : Value) (l : List Mk) (h : PMkG F [v] l) (cs : Array Value) (x : Ed) (hx : cs.toList = x.cells ∧ EdW x) : Fn Try.prog 4 #[v, .agg cs] F (fun r B => r = .bool true ∧ B = F) := by
  obtain ⟨a, c, e, hc, hs, hr, hw⟩ := h
  simp only [List.cons.injEq, and_true] at e
  subst e
  obtain rfl : cs = x.cells.toArray := by rw [← hx.1]
  exact MarksGo_f F hr rfl hw hx.2 (reach_mk hs)
end Go.Vl
