/- What the row rests on, part 4: a calculus of assertions, walks of functions over it, and plain laws. Conditions: none. -/
import Derived.Deep.QuietTactic
import Derived.BigQuiet
import Derived.WalkKit
import Derived.Test.YtpjjmbmmfelooaaGreatProg
import Derived.OrdersHeld
import Derived.Shelf.SortM.SortNone
import Derived.Shelf.SortM.Plain
import Derived.Ground.SlgmProg
import Derived.Shelf.SlIterI.Nil
import Derived.Ground.GgzProg
import Derived.Maps.RangeRun
import Derived.Laws.BytesArg
import Derived.RangeFuncRecord
import Derived.TacticsIn
import Derived.Deep.Slices
import Derived.OpenShut
import Derived.ChangeArms
import Derived.SizedLaws
import Derived.ChangeSame
import Derived.Test.YtpjjmbmmfelooaaGreatRows
import Derived.Sort.QuietThIn
import Derived.ScopeJumps
import Derived.LaidEqlPtr
import Derived.Lib.Builder
import Derived.Lib.UnsafeStr
import Derived.Laws.Strings
import Derived.Test.YtpjjmbmmfelooaaGreatMg3
set_option linter.unusedVariables false
set_option linter.unusedSimpArgs false
namespace Go.Vl
open Go Go.Proofs
/-- What was put into a transaction: of each address a byte, and whether it is fresh. -/
abbrev TF := Nat → Option (Nat × Bool)
def tf0 : TF := fun _ => none
def layF (p : Nat) (xs : List Nat) (fr : Bool) (f : TF) : TF := fun a => if p ≤ a ∧ a < p + xs.length then some (xs.getD (a - p) 0, ((f a).map (·.2)).getD fr) else f a
def byF (f : TF) (a : Nat) : Nat := ((f a).map (·.1)).getD 0
def isK (f : TF) (k : Bool) (a : Nat) : Bool := decide ((f a).map (·.2) = some k)
/-- The addresses of a kind, rising. -/
def adrF (n : Nat) (k : Bool) (f : TF) : List Nat := (List.range n).filter (isK f k)
/-- A byte more: at the last run's end, or a run of its own. -/
def runA (f : TF) (out : List (Nat × List Nat)) (a : Nat) : List (Nat × List Nat) :=
  match out.getLast? with
  | some r => if r.1 + r.2.length = a then out.dropLast ++ [(r.1, r.2 ++ [byF f a])] else out ++ [(a, [byF f a])]
  | none => [(a, [byF f a])]
def runsL (f : TF) (l : List Nat) : List (Nat × List Nat) := l.foldl (runA f) []
def runsF (n : Nat) (k : Bool) (f : TF) : List (Nat × List Nat) := runsL f (adrF n k f)
def extX (l : List (Nat × List Nat)) : List (Int × Int) := l.map fun r => ((r.1 : Int), (r.2.length : Int))
/-- Bytes as they are seen within. -/
def ovF (f : TF) (p : Nat) (xs : List Nat) : List Nat := xs.mapIdx fun i x => ((f (p + i)).map (·.1)).getD x
theorem ovF_len (f : TF) (p : Nat) (xs : List Nat) : (ovF f p xs).length = xs.length := by simp [ovF]
def stoL : List (Nat × List Nat) → DevS → Int × DevS
  | [], s => (0, s)
  | r :: l, s => if (sto (r.1 : Nat) r.2 s).1 ≠ 0 then sto (r.1 : Nat) r.2 s else stoL l (sto (r.1 : Nat) r.2 s).2
/-- The lines of runs, each once: those from d on. -/
def linR : List (Nat × List Nat) → Nat → List Nat
  | [], _ => []
  | r :: l, d => (List.range ((r.1 + r.2.length - 1) / 64 + 1 - max (r.1 / 64) d)).map (fun j => max (r.1 / 64) d + j) ++ linR l (max d ((r.1 + r.2.length - 1) / 64 + 1))
def flLs : List Nat → DevS → Int × DevS
  | [], s => (0, s)
  | q :: l, s => if (fl1 ((q * 64 : Nat) : Int) s).1 ≠ 0 then fl1 ((q * 64 : Nat) : Int) s else flLs l (fl1 ((q * 64 : Nat) : Int) s).2
def writeT (l : List (Nat × List Nat)) (s : DevS) : Int × DevS := if (stoL l s).1 ≠ 0 then stoL l s else flLs (linR l 0) (stoL l s).2
/-- What a commit does behind the first errors: its error, whether the transaction is over. -/
def comS (at_ sz n : Nat) (f : TF) (s : DevS) : (Int × Bool) × DevS :=
  if (writeT (runsF n true f) s).1 ≠ 0 then (((writeT (runsF n true f) s).1, true), (writeT (runsF n true f) s).2)
  else if runsF n false f = [] then
    if runsF n true f = [] then ((0, true), (writeT (runsF n true f) s).2) else (((fe (writeT (runsF n true f) s).2).1, true), (fe (writeT (runsF n true f) s).2).2)
  else if (writeS at_ sz (extX (runsF n false f)) (writeT (runsF n true f) s).2).1 ≠ 0 then
    (((writeS at_ sz (extX (runsF n false f)) (writeT (runsF n true f) s).2).1, decide ((writeS at_ sz (extX (runsF n false f)) (writeT (runsF n true f) s).2).1 = 5)), (writeS at_ sz (extX (runsF n false f)) (writeT (runsF n true f) s).2).2)
  else if (writeT (runsF n false f) (writeS at_ sz (extX (runsF n false f)) (writeT (runsF n true f) s).2).2).1 ≠ 0 then
    (((writeT (runsF n false f) (writeS at_ sz (extX (runsF n false f)) (writeT (runsF n true f) s).2).2).1, true), (writeT (runsF n false f) (writeS at_ sz (extX (runsF n false f)) (writeT (runsF n true f) s).2).2).2)
  else if (fe (writeT (runsF n false f) (writeS at_ sz (extX (runsF n false f)) (writeT (runsF n true f) s).2).2).2).1 ≠ 0 then
    (((fe (writeT (runsF n false f) (writeS at_ sz (extX (runsF n false f)) (writeT (runsF n true f) s).2).2).2).1, true), (fe (writeT (runsF n false f) (writeS at_ sz (extX (runsF n false f)) (writeT (runsF n true f) s).2).2).2).2)
  else (((clearS at_ (fe (writeT (runsF n false f) (writeS at_ sz (extX (runsF n false f)) (writeT (runsF n true f) s).2).2).2).2).1, true), (clearS at_ (fe (writeT (runsF n false f) (writeS at_ sz (extX (runsF n false f)) (writeT (runsF n true f) s).2).2).2).2).2)
/-! ### The map in memory -/
def encC (c : Nat × Bool) : Value := .agg #[.int .u8 (c.1 : Nat), .bool c.2]
/-- A map holds what was put in, of a device of n bytes. -/
structure MF (M : MS) (n : Nat) (f : TF) : Prop where
  wf : WfM M
  get : ∀ a : Nat, M.get (a : Int) = (f a).map encC
  keys : ∀ e ∈ M.D, ∃ a : Nat, a < n ∧ e.k = (a : Int)
  out : ∀ a, n ≤ a → f a = none
  by_ : ∀ a c, f a = some c → c.1 < 256
theorem mf_nil (c n : Nat) : MF ⟨[], c⟩ n tf0 := ⟨⟨(by simp), (by simp), fun e h => (by cases h)⟩, fun a => rfl, fun e h => (by cases h), fun _ _ => rfl, fun a c h => (by cases h)⟩
theorem layF_nil (p : Nat) (fr : Bool) (f : TF) : layF p [] fr f = f := by
  funext a; unfold layF; rw [if_neg (by simp only [List.length_nil]; omega)]
theorem layF_snoc {p : Nat} {xs : List Nat} {x : Nat} {fr : Bool} {f : TF} : layF p (xs ++ [x]) fr f = fun a => if a = p + xs.length then some (x, ((layF p xs fr f a).map (·.2)).getD fr) else layF p xs fr f a := by
  funext a
  unfold layF
  simp only [List.length_append, List.length_singleton]
  by_cases h : a = p + xs.length
  · subst h
    rw [if_pos (by omega), if_pos rfl, if_neg (by omega), show p + xs.length - p = xs.length by omega]
    simp [List.getD]
  · rw [if_neg h]
    by_cases h2 : p ≤ a ∧ a < p + xs.length
    · rw [if_pos (by omega), if_pos h2]
      congr 2
      simp only [List.getD_eq_getElem?_getD]
      rw [List.getElem?_append_left (by omega)]
    · rw [if_neg (by omega), if_neg h2]
theorem mf_put {M : MS} {n a : Nat} {f : TF} {x : Nat} {b : Bool} (h : MF M n f) (ha : a < n) (hx : x < 256) : MF (M.put (a : Int) (encC (x, b))) n (fun c => if c = a then some (x, b) else f c) := by
  refine ⟨wfM_put h.wf, fun c => ?_, fun e he => ?_, fun c hc => ?_, fun c v hv => ?_⟩
  · rw [MS.get_put]
    by_cases hc : c = a
    · subst hc; rw [if_pos rfl]; simp
    · rw [if_neg (by omega), if_neg hc]; exact h.get c
  · unfold MS.put at he
    split at he
    · rename_i i u hf
      have hk : ∃ e' ∈ M.D, e'.k = e.k := by
        obtain ⟨j, hj, rfl⟩ := List.mem_iff_getElem.1 he
        simp only [List.length_modify] at hj
        refine ⟨M.D[j], List.getElem_mem _, ?_⟩
        simp only [List.getElem_modify]
        split <;> rfl
      obtain ⟨e', h1, h2⟩ := hk
      rw [← h2]; exact h.keys e' h1
    · rcases List.mem_append.1 he with he | he
      · exact h.keys e he
      · rw [List.mem_singleton.1 he]; exact ⟨a, ha, rfl⟩
  · simp only [if_neg (show c ≠ a by omega)]; exact h.out c hc
  · by_cases hc : c = a
    · simp only [if_pos hc, Option.some.injEq] at hv; rw [← hv]; exact hx
    · simp only [if_neg hc] at hv; exact h.by_ c v hv
end Go.Vl

namespace Go.Vl
open Go Go.Proofs
theorem mfind_mem : ∀ {D : List ME} {e : ME}, (D.map ME.k).Nodup → e ∈ D → ∃ i, mfind D e.k 0 = some (i, e.v)
  | x :: D, e, hn, he => by
    simp only [List.map_cons, List.nodup_cons] at hn
    rw [mfind_cons]
    rcases List.mem_cons.1 he with rfl | he
    · exact ⟨0, by rw [if_pos rfl]⟩
    · have hne : e.k ≠ x.k := fun h => hn.1 (h ▸ List.mem_map_of_mem he)
      obtain ⟨i, hi⟩ := mfind_mem hn.2 he
      exact ⟨i + 1, by rw [if_neg hne, mfind_i, hi]; rfl⟩
theorem get_mem {M : MS} {e : ME} (hw : WfM M) (he : e ∈ M.D) : M.get e.k = some e.v := by
  obtain ⟨i, hi⟩ := mfind_mem hw.keys he
  unfold MS.get; rw [hi]; rfl
/-- The keys of a kind among entries. -/
def kys (f : TF) (k : Bool) (l : List ME) : List Int := (l.filter fun e => isK f k e.k.toNat).map ME.k
end Go.Vl

namespace Go.Vl
open Go Go.Proofs
def scQ (l : Nat) (K : Env → SP → Prop) (Q : Post) : Post
  | .goto l', ρ, A => l' = l ∧ K ρ A
  | e, ρ, A => Q e ρ A
section
variable {P : Program} {n : Nat} {ρ : Env} {A : SP} {Q : Post} {K : Env → SP → Prop} {l : Nat}
end
end Go.Vl

namespace Go.Vl
open Go Go.Proofs
def pocs (lg d : Nat) (ov : Option Nat) : List Value := [.pointer (some ⟨d, 0, none⟩), .pointer (some ⟨lg, 0, none⟩), .pointer (ov.map fun t => (⟨t, 0, none⟩ : Addr))]
def txcs (p mb : Nat) (over : Bool) : List Value := [.pointer (some ⟨p, 0, none⟩), .map (some mb), .bool over]
def stpS (at_ sz : Nat) (s : DevS) : Int := if (recordsS at_ sz s).2 = 0 ∧ (recordsS at_ sz s).1 ≠ [] then 3 else (recordsS at_ sz s).2
def idlS (s : DevS) (ov : Option Nat) : Int := if s.off = true then 5 else if ov.isSome then 3 else 0
theorem rec_err {at_ sz : Nat} {s : DevS} : (recordsS at_ sz s).2 = 0 ∨ (recordsS at_ sz s).2 = 5 ∨ (recordsS at_ sz s).2 = 110 := by
  unfold recordsS
  split
  · exact .inr (.inl rfl)
  · rcases Classical.em ((recsF (s.ls.length * 64) at_ sz (roomS at_ sz s) (wordP (at_ : Nat) s).1 0).2 = 0) with h | h
    · exact .inl h
    · rw [recs_err h]; exact .inr (.inr rfl)
attribute [local irreducible] crk crL crc Sl pt ro Dev imgS recS readS recsF rdW rdO rkT Parts rvl recordsS
theorem made12_c {A : SP} {d : Nat} {p lg : Nat} {ov : Option Nat} (hp : Has A p (cl (pocs lg d ov) 110) := by (repeat (first | assumption | with_reducible exact has_here | with_reducible exact has_pt | apply has_left))) :
    Fn Tryz.prog 109 #[.pointer (some ⟨p, 0, none⟩)] (A) (fun r B => r = .bool true ∧ A = B) := by
  refine fn_enterW (args := [.pointer (some ⟨p, 0, none⟩)]) Tryz.func109 rfl Tryz.ntmps109 (by simp) ?_; refine sr ?_; refine tla ?_; refine nq ?_; refine sr ?_; refine tlm ?_; refine tv (o_nep Tryz.underlying69 rfl rfl) ?_; refine tlm ?_; refine tl_bool (d := 5) rfl (fun h => ?_) (fun h => ?_)
  · try simp only [lv1, lv2, lv3, lv4, lv5, lv6, Bool.not_true, Bool.not_false] at h
    refine tlm ?_; refine tv (o_nilCheck rfl) ?_; refine tv (o_fieldAddr (o := 0) Tryz.underlying110 rfl rfl sz47 rfl) ?_; refine tv (o_load p47 rfl hp rfl) ?_; refine tv (o_nep Tryz.underlying47 rfl rfl) ?_; refine tv (o_pick_t rfl (by conv => lhs; whnf)) ?_; refine tla ?_; refine nq ?_; refine tc_ret ?_; exact ⟨.bool true, _, res1 rfl rfl, Dr.sat (by repeat (first | with_reducible exact dr_refl | apply dr_keep | apply dr_drop)), rfl, rfl⟩
  · exfalso; simp at h
theorem Size12_c {A R : SP} {C : SP → SP} {d : Nat} {s : DevS} (hc : Ct A (Dev d s) R C := by repeat (first | with_reducible exact ct_here | apply ct_left)) {p lg : Nat} {ov : Option Nat} (hp : Has A p (cl (pocs lg d ov) 110) := by (repeat (first | assumption | with_reducible exact has_here | with_reducible exact has_pt | apply has_left))) :
    Fn Tryz.prog 45 #[.pointer (some ⟨p, 0, none⟩)] (A) (fun r B => r = .int .i64 ((s.ls.length : Int) * 64) ∧ A = B) := by
  refine fn_enterW (args := [.pointer (some ⟨p, 0, none⟩)]) Tryz.func45 rfl Tryz.ntmps45 (by simp) ?_; refine sr ?_; refine tla ?_; refine nq ?_; refine tc_seq ?_; refine sr ?_; refine tlm ?_; refine tl_c rfl (o_call bd109 rfl (made12_c (hp := hp))) ?_; rintro _ _ ⟨rfl, rfl⟩; refine tv (o_not rfl) ?_; refine nq ?_; refine tc_cond rfl (fun h => ?_) (fun h => ?_)
  · exfalso; simp at h
  · try simp only [lv1, lv2, lv3, lv4, lv5, lv6, Bool.not_true, Bool.not_false] at h
    refine tc_skip ?_; refine q_then_n ?_; refine sr ?_; refine tlm ?_; refine tv (o_nilCheck rfl) ?_; refine tv (o_fieldAddr (o := 0) Tryz.underlying110 rfl rfl sz47 rfl) ?_; refine tv (o_load p47 rfl hp rfl) ?_; refine tl_c rfl (o_call bd104 rfl (Size_c (hc := hc))) ?_; rintro _ _ ⟨rfl, rfl⟩; refine tla ?_; refine nq ?_; refine tc_ret ?_; exact ⟨_, _, res1 rfl rfl, Dr.sat (by repeat (first | with_reducible exact dr_refl | apply dr_keep | apply dr_drop)), rfl, rfl⟩
theorem State12_c {A R : SP} {C : SP → SP} {d : Nat} {s : DevS} (hc : Ct A (Dev d s) R C := by repeat (first | with_reducible exact ct_here | apply ct_left)) {p lg : Nat} {ov : Option Nat} (hp : Has A p (cl (pocs lg d ov) 110) := by (repeat (first | assumption | with_reducible exact has_here | with_reducible exact has_pt | apply has_left))) {at_ sz : Nat} (hl : Has R lg (cl (lcs11 d at_ sz) 99) := by (repeat (first | assumption | with_reducible exact has_here | with_reducible exact has_pt | apply has_left))) (hlw : LogW (s.ls.length * 64) at_ sz := by assumption) :
    Fn Tryz.prog 44 #[.pointer (some ⟨p, 0, none⟩)] (A) (fun r B => r = .int .i64 (stpS at_ sz s) ∧ A = B) := by
  refine fn_enterW (args := [.pointer (some ⟨p, 0, none⟩)]) Tryz.func44 rfl Tryz.ntmps44 (by simp) ?_
  obtain ⟨L, e0, hL⟩ : ∃ L e0, recordsS at_ sz s = (L, e0) := ⟨_, _, rfl⟩
  have hst : stpS at_ sz s = if e0 = 0 ∧ L ≠ [] then 3 else e0 := by unfold stpS; rw [hL]
  refine sr ?_; refine tla ?_; refine nq ?_; refine tc_seq ?_; refine sr ?_; refine tlm ?_; refine tl_c rfl (o_call bd109 rfl (made12_c (hp := hp))) ?_; rintro _ _ ⟨rfl, rfl⟩; refine tv (o_not rfl) ?_; refine nq ?_; refine tc_cond rfl (fun h => ?_) (fun h => ?_)
  · exfalso; simp at h
  · try simp only [lv1, lv2, lv3, lv4, lv5, lv6, Bool.not_true, Bool.not_false] at h
    refine tc_skip ?_; refine q_then_n ?_; refine sr ?_; refine tlm ?_; refine tv (o_nilCheck rfl) ?_; refine tv (o_fieldAddr (o := 1) Tryz.underlying110 rfl rfl sz89 rfl) ?_; refine tv (o_load p89 rfl hp rfl) ?_; refine tl_c rfl (o_call bd108 rfl (Records_w (hc := hc) (hl := hl) (hlw := hlw) (hX := hL))) ?_; rintro _ _ ⟨a13, c13, vs, rfl, hc13, hvs, rfl⟩
    have hA9 : C (Dev d s) = A := by rw [hc.2]; exact hc.1.symm
    rw [hA9]
    refine tlm ?_; refine tv (o_extract rfl rfl) ?_; refine tv (o_extract rfl rfl) ?_; refine tla ?_; refine tla ?_; refine nq ?_; refine tc_seq ?_; refine tc_seq ?_; refine tc_cut (fun ρ BB => ∃ (bb : Bool), (bb = decide (e0 = 0 ∧ L ≠ [])) ∧ ρ 22 = .bool bb ∧ ρ 4 = .int .i64 e0 ∧ Dr BB (A)) ?_ ?_
    · skip
      refine tc_reg ?_; refine tlm ?_; refine tv (o_eqi rfl rfl) ?_; refine tlm ?_; refine tl_bool (d := 18) rfl (fun h => ?_) (fun h => ?_)
      · have g18 : (e0 = 0) := by first | exact of_decide_eq_true h | (have h2 := h; simp at h2; omega) | simpa using h
        refine tlm ?_; refine tv (o_len Tryz.underlying181 rfl) ?_; refine tv (o_gtr rfl rfl) ?_; refine tv (o_pick_t rfl (by conv => lhs; whnf)) ?_; refine tl_nil ?_; exact ⟨_, by first | (rw [decide_eq_decide]; exact ⟨fun h9 => ⟨g18, fun e => by subst e; simp at h9⟩, fun h9 => by have := List.length_pos_iff.2 h9.2; omega⟩) | exact (decide_eq_false fun h9 => g18 h9.1).symm, rfl, rfl, (by repeat (first | with_reducible exact dr_refl | apply dr_keep | apply dr_drop))⟩
      · have g18 : ¬ (e0 = 0) := by first | exact of_decide_eq_false h | (have h2 := h; simp at h2; omega) | simpa using h
        refine tk ?_; refine tk ?_; refine tk ?_; refine tv (o_pick_f rfl (by conv => lhs; whnf)) ?_; refine tl_nil ?_; exact ⟨_, by first | (rw [decide_eq_decide]; exact ⟨fun h9 => ⟨g18, fun e => by subst e; simp at h9⟩, fun h9 => by have := List.length_pos_iff.2 h9.2; omega⟩) | exact (decide_eq_false fun h9 => g18 h9.1).symm, rfl, rfl, (by repeat (first | with_reducible exact dr_refl | apply dr_keep | apply dr_drop))⟩
    · intro ρ B hI
      obtain ⟨bb, hbb0, hE22, hE4, hBA⟩ := hI
      refine q_then_n ?_; refine tc_pre hBA.sat ?_
      clear hBA
      refine tc_env (d := 22) hE22 ?_; refine tc_env (d := 4) hE4 ?_
      clear hE22 hE4
      refine tc_cond rfl (fun h => ?_) (fun h => ?_)
      · try simp only [lv1, lv2, lv3, lv4, lv5, lv6, Bool.not_true, Bool.not_false] at h
        refine sr ?_; refine tla ?_; refine nq ?_; refine tc_ret ?_; refine q_then_r ?_
        rw [h] at hbb0
        have h9 := of_decide_eq_true hbb0.symm
        rw [hst, if_pos h9]
        exact ⟨.int .i64 3, _, res1 rfl rfl, Dr.sat (by repeat (first | with_reducible exact dr_refl | apply dr_keep | apply dr_drop)), rfl, rfl⟩
      · try simp only [lv1, lv2, lv3, lv4, lv5, lv6, Bool.not_true, Bool.not_false] at h
        refine tc_skip ?_; refine q_then_n ?_; refine sr ?_; refine tlm ?_; refine tla ?_; refine nq ?_; refine tc_ret ?_
        rw [h] at hbb0
        have h9 := of_decide_eq_false hbb0.symm
        rw [hst, if_neg h9]
        exact ⟨.int .i64 e0, _, res1 rfl rfl, Dr.sat (by repeat (first | with_reducible exact dr_refl | apply dr_keep | apply dr_drop)), rfl, rfl⟩
theorem idle12_c {A R : SP} {C : SP → SP} {d : Nat} {s : DevS} (hc : Ct A (Dev d s) R C := by repeat (first | with_reducible exact ct_here | apply ct_left)) {p lg : Nat} {ov : Option Nat} (hp : Has A p (cl (pocs lg d ov) 110) := by (repeat (first | assumption | with_reducible exact has_here | with_reducible exact has_pt | apply has_left))) :
    Fn Tryz.prog 111 #[.pointer (some ⟨p, 0, none⟩)] (A) (fun r B => r = .int .i64 (idlS s ov) ∧ A = B) := by
  refine fn_enterW (args := [.pointer (some ⟨p, 0, none⟩)]) Tryz.func111 rfl Tryz.ntmps111 (by simp) ?_; refine sr ?_; refine tla ?_; refine nq ?_; refine tc_seq ?_; refine tc_block ?_; refine sr ?_; refine tlm ?_; refine tl_c rfl (o_call bd109 rfl (made12_c (hp := hp))) ?_; rintro _ _ ⟨rfl, rfl⟩; refine tv (o_not rfl) ?_; refine tla ?_; refine nq ?_; refine tc_cond rfl (fun h => ?_) (fun h => ?_)
  · exfalso; simp at h
  · try simp only [lv1, lv2, lv3, lv4, lv5, lv6, Bool.not_true, Bool.not_false] at h
    refine sr ?_; refine tlm ?_; refine tv (o_nilCheck rfl) ?_; refine tv (o_fieldAddr (o := 0) Tryz.underlying110 rfl rfl sz47 rfl) ?_; refine tv (o_load p47 rfl hp rfl) ?_; refine tl_c rfl (o_call bd58 rfl (Off_c (hc := hc))) ?_; rintro _ _ ⟨rfl, rfl⟩; refine tla ?_; refine nq ?_; refine tc_cond rfl (fun h => ?_) (fun h => ?_)
    · try simp only [lv1, lv2, lv3, lv4, lv5, lv6, Bool.not_true, Bool.not_false] at h
      refine sr ?_; refine tla ?_; refine nq ?_; refine tc_ret ?_; refine q_block_r (q_then_r ?_)
      have e : idlS s ov = 5 := by unfold idlS; rw [if_pos h]
      rw [e]
      exact ⟨.int .i64 5, _, res1 rfl rfl, Dr.sat (by repeat (first | with_reducible exact dr_refl | apply dr_keep | apply dr_drop)), rfl, rfl⟩
    · have ho : s.off = false := by simpa using h
      refine sr ?_; refine tlm ?_; refine tv (o_nilCheck rfl) ?_; refine tv (o_fieldAddr (o := 2) Tryz.underlying110 rfl rfl sz62 rfl) ?_; refine tv (o_load p62 rfl hp rfl) ?_; refine tv (o_nep Tryz.underlying62 rfl rfl) ?_; refine tla ?_; refine nq ?_; refine tc_cond rfl (fun h => ?_) (fun h => ?_)
      · try simp only [lv1, lv2, lv3, lv4, lv5, lv6, Bool.not_true, Bool.not_false] at h
        refine sr ?_; refine tla ?_; refine nq ?_; refine tc_ret ?_; refine q_block_r (q_then_r ?_)
        have e : idlS s ov = 3 := by unfold idlS; rw [if_neg (by rw [ho]; decide), if_pos (by cases ov <;> simp at h ⊢)]
        rw [e]
        exact ⟨.int .i64 3, _, res1 rfl rfl, Dr.sat (by repeat (first | with_reducible exact dr_refl | apply dr_keep | apply dr_drop)), rfl, rfl⟩
      · try simp only [lv1, lv2, lv3, lv4, lv5, lv6, Bool.not_true, Bool.not_false] at h
        refine tc_skip ?_; refine q_block_n (q_then_n ?_); refine sr ?_; refine tla ?_; refine nq ?_; refine tc_ret ?_
        have e : idlS s ov = 0 := by unfold idlS; rw [if_neg (by rw [ho]; decide), if_neg (by cases ov <;> simp at h ⊢)]
        rw [e]
        exact ⟨.int .i64 0, _, res1 rfl rfl, Dr.sat (by repeat (first | with_reducible exact dr_refl | apply dr_keep | apply dr_drop)), rfl, rfl⟩
theorem begun12_c {A R : SP} {C : SP → SP} {d : Nat} {s : DevS} (hc : Ct A (Dev d s) R C := by repeat (first | with_reducible exact ct_here | apply ct_left)) {p lg : Nat} {ov : Option Nat} (hp : Has A p (cl (pocs lg d ov) 110) := by (repeat (first | assumption | with_reducible exact has_here | with_reducible exact has_pt | apply has_left))) {t mb : Nat} (ht : Has A t (cl (txcs p mb false) 113) := by (repeat (first | assumption | with_reducible exact has_here | with_reducible exact has_pt | apply has_left))) (ho : s.off = false := by assumption) :
    Fn Tryz.prog 95 #[.pointer (some ⟨t, 0, none⟩)] (A) (fun r B => r = .int .i64 0 ∧ A = B) := by
  refine fn_enterW (args := [.pointer (some ⟨t, 0, none⟩)]) Tryz.func95 rfl Tryz.ntmps95 (by simp) ?_; refine sr ?_; refine tla ?_; refine nq ?_; refine tc_seq ?_; refine tc_block ?_; refine sr ?_; refine tlm ?_; refine tv (o_eqp Tryz.underlying62 rfl rfl) ?_; refine tlm ?_; refine tl_bool (d := 6) rfl (fun h => ?_) (fun h => ?_)
  · exfalso; simp at h
  · try simp only [lv1, lv2, lv3, lv4, lv5, lv6, Bool.not_true, Bool.not_false] at h
    refine tlm ?_; refine tv (o_nilCheck rfl) ?_; refine tv (o_fieldAddr (o := 0) Tryz.underlying113 rfl rfl sz69 rfl) ?_; refine tv (o_load p69 rfl ht rfl) ?_; refine tv (o_eqp Tryz.underlying69 rfl rfl) ?_; refine tv (o_pick_f rfl (by conv => lhs; whnf)) ?_; refine tla ?_; refine nq ?_; refine tc_cond rfl (fun h => ?_) (fun h => ?_)
    · exfalso; simp at h
    · try simp only [lv1, lv2, lv3, lv4, lv5, lv6, Bool.not_true, Bool.not_false] at h
      refine sr ?_; refine tlm ?_; refine tv (o_nilCheck rfl) ?_; refine tv (o_fieldAddr (o := 2) Tryz.underlying113 rfl rfl sz4 rfl) ?_; refine tv (o_load p4 rfl ht rfl) ?_; refine tla ?_; refine nq ?_; refine tc_cond rfl (fun h => ?_) (fun h => ?_)
      · exfalso; simp at h
      · try simp only [lv1, lv2, lv3, lv4, lv5, lv6, Bool.not_true, Bool.not_false] at h
        refine sr ?_; refine tlm ?_; refine tv (o_nilCheck rfl) ?_; refine tv (o_fieldAddr (o := 0) Tryz.underlying113 rfl rfl sz69 rfl) ?_; refine tv (o_load p69 rfl ht rfl) ?_; refine tv (o_nilCheck rfl) ?_; refine tv (o_fieldAddr (o := 0) Tryz.underlying110 rfl rfl sz47 rfl) ?_; refine tv (o_load p47 rfl hp rfl) ?_; refine tl_c rfl (o_call bd58 rfl (Off_c (hc := hc))) ?_; rintro _ _ ⟨rfl, rfl⟩; refine tla ?_; refine nq ?_; refine tc_cond rfl (fun h => ?_) (fun h => ?_)
        · exfalso; rw [ho] at h; simp at h
        · try simp only [lv1, lv2, lv3, lv4, lv5, lv6, Bool.not_true, Bool.not_false] at h
          refine tc_skip ?_; refine q_block_n (q_then_n ?_); refine sr ?_; refine tla ?_; refine nq ?_; refine tc_ret ?_; exact ⟨.int .i64 0, _, res1 rfl rfl, Dr.sat (by repeat (first | with_reducible exact dr_refl | apply dr_keep | apply dr_drop)), rfl, rfl⟩
end Go.Vl

namespace Go.Vl
open Go Go.Proofs
/-- A pool on a device with a log, and its transaction. -/
def TxA (t p lg d mb at_ sz : Nat) (M : MS) (over : Bool) (s : DevS) : SP := pt p (cl (pocs lg d (if over then none else some t)) 110) * pt lg (cl (lcs11 d at_ sz) 99) * Dev d s * pt t (cl (txcs p mb over) 113) * pt mb (mpo .i64 M)
def cel0 (c : Nat × Bool) : List Value := [.int .u8 ((c.1 : Nat) : Int), .bool c.2]
theorem mf_lay {M : MS} {n q i x : Nat} {xs : List Nat} {fr : Bool} {f : TF} (h : MF M n (layF q (xs.take i) fr f)) (hi : i < xs.length) (hx : xs[i] = x) (hb : x < 256) (hn : q + i < n) :
    MF (M.put ((q + i : Nat) : Int) (encC (x, (((layF q (xs.take i) fr f (q + i)).map (·.2)).getD fr)))) n (layF q (xs.take (i + 1)) fr f) := by
  have e : layF q (xs.take (i + 1)) fr f = fun c => if c = q + i then some (x, ((layF q (xs.take i) fr f (q + i)).map (·.2)).getD fr) else layF q (xs.take i) fr f c := by
    rw [List.take_succ_eq_append_getElem hi, layF_snoc, hx]
    funext c
    rw [List.length_take, Nat.min_eq_left (by omega)]
    by_cases hc : c = q + i
    · subst hc; rw [if_pos rfl]
    · rw [if_neg hc, if_neg hc]
  rw [e]
  exact mf_put h hn hb
theorem layF_zero (q : Nat) (fr : Bool) (f : TF) (xs : List Nat) : layF q (xs.take 0) fr f = f := layF_nil q fr f
attribute [local irreducible] crk crL crc Sl pt ro Dev imgS recS readS recsF rdW rdO rkT Parts rvl recordsS
theorem New12_c {A R : SP} {C : SP → SP} {d : Nat} {s : DevS} (hc : Ct A (Dev d s) R C := by repeat (first | with_reducible exact ct_here | apply ct_left)) {lg : Nat} {at_ sz : Nat} (hl : Has R lg (cl (lcs11 d at_ sz) 99) := by (repeat (first | assumption | with_reducible exact has_here | with_reducible exact has_pt | apply has_left))) (hlw : LogW (s.ls.length * 64) at_ sz := by assumption) :
    Fn Tryz.prog 39 #[.pointer (some ⟨d, 0, none⟩), .pointer (some ⟨lg, 0, none⟩)] (A) (fun r B => ∃ p, r = .tuple #[.pointer (some ⟨p, 0, none⟩), .int .i64 0] ∧ B = A * pt p (cl (pocs lg d none) 110)) := by
  refine fn_enterW (args := [.pointer (some ⟨d, 0, none⟩), .pointer (some ⟨lg, 0, none⟩)]) Tryz.func39 rfl Tryz.ntmps39 (by simp) ?_
  obtain ⟨L, e0, hL⟩ : ∃ L e0, recordsS at_ sz s = (L, e0) := ⟨_, _, rfl⟩
  have he0 : e0 ≠ 1 := by have h9 := rec_err (at_ := at_) (sz := sz) (s := s); rw [hL] at h9; simp only [] at h9; omega
  refine tc_have (fun _ _ h => ct_wf2 hc h) fun hwf => ?_
  have htop := hwf.top
  have hpos := hwf.pos
  refine sr ?_; refine tla ?_; refine tla ?_; refine nq ?_; refine tc_seq ?_; refine sr ?_; refine tlm ?_; refine tl_c rfl (o_call bd104 rfl (Size_c (hc := hc))) ?_; rintro _ _ ⟨rfl, rfl⟩; refine tv (o_eqi rfl rfl) ?_; refine nq ?_; refine tc_cond rfl (fun h => ?_) (fun h => ?_)
  · exfalso; first | omega | (simp at h; omega)
  · try simp only [lv1, lv2, lv3, lv4, lv5, lv6, Bool.not_true, Bool.not_false] at h
    refine tc_skip ?_; refine q_then_n ?_; refine tc_seq ?_; refine sr ?_; refine tlm ?_; refine tl_c rfl (o_call bd108 rfl (Records_w (hc := hc) (hl := hl) (hlw := hlw) (hX := hL))) ?_; rintro _ _ ⟨a13, c13, vs, rfl, hc13, hvs, rfl⟩
    have hA9 : C (Dev d s) = A := by rw [hc.2]; exact hc.1.symm
    rw [hA9]
    refine tlm ?_; refine tv (o_extract rfl rfl) ?_; refine tv (o_extract rfl rfl) ?_; refine tla ?_; refine tla ?_; refine nq ?_; refine sr ?_; refine tlm ?_; refine tv (o_eqi rfl rfl) ?_; refine nq ?_; refine tc_cond rfl (fun h => ?_) (fun h => ?_)
    · exfalso; first | exact he0 (of_decide_eq_true h) | (simp at h; omega)
    · try simp only [lv1, lv2, lv3, lv4, lv5, lv6, Bool.not_true, Bool.not_false] at h
      refine tc_skip ?_; refine q_then_n ?_; refine sr ?_; refine tlm ?_; refine tlm ?_; refine tv (o_bS (l := [_, _, _]) (pv_cons (by conv => lhs; whnf) (pv_cons (by conv => lhs; whnf) pv_nil)) Tryz.underlying110 z110 (pl110 Tryz.underlying110) rfl) ?_; refine tl_x rfl (o_box rfl rfl) ?_; rintro _ _ ⟨b21, rfl, rfl⟩; refine tla ?_; refine tla ?_; refine nq ?_; refine tc_ret ?_; exact ⟨_, _, res2 rfl rfl rfl, Dr.sat (by repeat (first | with_reducible exact dr_refl | apply dr_keep | apply dr_drop)), b21, rfl, rfl⟩
theorem Begin12_ok {A R : SP} {C : SP → SP} {p lg d at_ sz : Nat} {s : DevS} (hA : A = R * pt p (cl (pocs lg d none) 110) * pt lg (cl (lcs11 d at_ sz) 99) * Dev d s) (hlw : LogW (s.ls.length * 64) at_ sz) (ho : s.off = false) (hst : stpS at_ sz s = 0) :
    Fn Tryz.prog 42 #[.pointer (some ⟨p, 0, none⟩)] (A) (fun r B => ∃ t mb, r = .tuple #[.pointer (some ⟨t, 0, none⟩), .int .i64 0] ∧ B = R * TxA t p lg d mb at_ sz ⟨[], 0⟩ false s) := by
  refine fn_enterW (args := [.pointer (some ⟨p, 0, none⟩)]) Tryz.func42 rfl Tryz.ntmps42 (by simp) ?_
  subst hA
  refine sr ?_; refine tla ?_; refine tla ?_; refine nq ?_; refine tc_seq ?_; refine sr ?_; refine tlm ?_; refine tl_c rfl (o_call bd111 rfl (idle12_c (s := s))) ?_; rintro _ _ ⟨rfl, rfl⟩; refine tla ?_; refine nq ?_; refine sr ?_; refine tlm ?_; refine tv (o_nei rfl rfl) ?_; refine nq ?_; refine tc_cond rfl (fun h => ?_) (fun h => ?_)
  · exfalso; unfold idlS at h; rw [if_neg (by rw [ho]; decide)] at h; simp at h
  · try simp only [lv1, lv2, lv3, lv4, lv5, lv6, Bool.not_true, Bool.not_false] at h
    refine tc_skip ?_; refine q_then_n ?_; refine tc_seq ?_; refine sr ?_; refine tlm ?_; refine tl_c rfl (o_call bd44 rfl (State12_c (s := s))) ?_; rintro _ _ ⟨rfl, rfl⟩; refine tla ?_; refine nq ?_; refine sr ?_; refine tlm ?_; refine tv (o_nei rfl rfl) ?_; refine nq ?_; refine tc_cond rfl (fun h => ?_) (fun h => ?_)
    · exfalso; rw [hst] at h; simp at h
    · try simp only [lv1, lv2, lv3, lv4, lv5, lv6, Bool.not_true, Bool.not_false] at h
      refine tc_skip ?_; refine q_then_n ?_; refine sr ?_; refine tlm ?_; refine tlm ?_; refine tl_x rfl (o_makeMap (ik := .i64) Tryz.underlying111) ?_; rintro _ _ ⟨b18, rfl, rfl⟩; refine tv (o_bS (l := [_, _, _]) (pv_cons (by conv => lhs; whnf) (pv_cons (by conv => lhs; whnf) pv_nil)) Tryz.underlying113 z113 (pl113 Tryz.underlying113) rfl) ?_; refine tl_x rfl (o_box rfl rfl) ?_; rintro _ _ ⟨b20, rfl, rfl⟩; refine tv (o_nilCheck rfl) ?_; refine tv (o_fieldAddr (o := 2) Tryz.underlying110 rfl rfl sz62 rfl) ?_; refine tl_u rfl (o_stU (l' := pocs lg d (some b20)) rfl (by repeat (first | with_reducible exact upd_here | with_reducible exact upd_pt | apply upd_left)) sz62 rfl rfl (by show 2 < 3; decide) rfl) ?_; refine nq ?_; refine sr ?_; refine tlm ?_; refine tv (o_nilCheck rfl) ?_; refine tv (o_fieldAddr (o := 2) Tryz.underlying110 rfl rfl sz62 rfl) ?_; refine tv (by first | exact o_load p62 rfl (by repeat (first | with_reducible exact has_here | with_reducible exact has_pt | apply has_left)) rfl | exact o_loadC p62 rfl (by assumption)) ?_; refine tla ?_; refine tla ?_; refine nq ?_; refine tc_ret ?_; exact ⟨_, _, res2 rfl rfl rfl, fun g w h => (Dr.sat (A' := R * pt p (cl (pocs lg d (some b20)) 110) * pt lg (cl (lcs11 d at_ sz) 99) * Dev d s * pt b18 (mpo .i64 ⟨[], 0⟩) * pt b20 (cl (txcs p b18 false) 113)) (by repeat (first | with_reducible exact dr_refl | apply dr_keep | apply dr_drop)) g w h).perm (by unfold TxA; rw [if_neg (by decide)]; ac_rfl), b20, b18, rfl, rfl⟩
set_option maxRecDepth 20000 in
set_option maxHeartbeats 1000000 in
theorem lay12_c {A R : SP} {C : SP → SP} {t p lg d mb at_ sz : Nat} {M : MS} {s : DevS} (hc : Ct A (TxA t p lg d mb at_ sz M false s) R C := by repeat (first | with_reducible exact ct_here | apply ct_left)) {n : Nat} {f : TF} {fr : Bool} {a : Option Addr} {c m q : Nat} {xs : List Nat} (hM : MF M n f) (hn : n = s.ls.length * 64 := by omega) (ho : s.off = false := by assumption) (hr : Rs R a (bys xs) := by repeat (first | assumption | with_reducible exact rs_sl | with_reducible exact rs_pt0 | exact rs_none | apply Rs.left)) (hm : xs.length = m := by first | assumption | rfl) (hb : ∀ x ∈ xs, x < 256 := by assumption) (hqm : q + m ≤ n := by omega) :
    Fn Tryz.prog 113 #[.pointer (some ⟨t, 0, none⟩), .int .i64 (q : Nat), .slice a m c, .bool fr] (A) (fun r B => ∃ M2, r = .int .i64 0 ∧ MF M2 n (layF q xs fr f) ∧ B = C (TxA t p lg d mb at_ sz M2 false s)) := by
  refine fn_enterW (args := [.pointer (some ⟨t, 0, none⟩), .int .i64 (q : Nat), .slice a m c, .bool fr]) Tryz.func113 rfl Tryz.ntmps113 (by simp) ?_
  obtain ⟨rfl, hC⟩ := hc
  refine tc_eq (show _ = R * pt p (cl (pocs lg d (some t)) 110) * pt lg (cl (lcs11 d at_ sz) 99) * Dev d s * pt t (cl (txcs p mb false) 113) * pt mb (mpo .i64 M) by unfold TxA; rw [if_neg (by decide)]; ac_rfl) ?_; refine tc_have (fun _ _ h => ct_wf2 (by repeat (first | with_reducible exact ct_here | apply ct_left)) h) fun hwf => ?_
  have htop := hwf.top
  refine sr ?_; refine tla ?_; refine nq ?_; refine tc_seq ?_; refine sr ?_; refine tlm ?_; refine tl_c rfl (o_call bd95 rfl (begun12_c (s := s))) ?_; rintro _ _ ⟨rfl, rfl⟩; refine tla ?_; refine nq ?_; refine sr ?_; refine tlm ?_; refine tv (o_nei rfl rfl) ?_; refine nq ?_; refine tc_cond rfl (fun h => ?_) (fun h => ?_)
  · exfalso; simp at h
  · try simp only [lv1, lv2, lv3, lv4, lv5, lv6, Bool.not_true, Bool.not_false] at h
    refine tc_skip ?_; refine q_then_n ?_; refine tc_seq ?_; refine sr ?_; refine tlm ?_; refine tv (o_nilCheck rfl) ?_; refine tv (o_fieldAddr (o := 0) Tryz.underlying113 rfl rfl sz69 rfl) ?_; refine tv (o_load p69 rfl (by repeat (first | with_reducible exact has_here | with_reducible exact has_pt | apply has_left)) rfl) ?_; refine tv (o_nilCheck rfl) ?_; refine tv (o_fieldAddr (o := 0) Tryz.underlying110 rfl rfl sz47 rfl) ?_; refine tv (o_load p47 rfl (by repeat (first | with_reducible exact has_here | with_reducible exact has_pt | apply has_left)) rfl) ?_; refine tl_c rfl (o_call bd104 rfl (Size_c (s := s))) ?_; rintro _ _ ⟨rfl, rfl⟩; refine tla ?_; refine nq ?_; refine sr ?_; refine tlm ?_; refine tv (o_lss rfl rfl) ?_; refine tlm ?_; refine tl_bool (d := 30) rfl (fun h => ?_) (fun h => ?_)
    · exfalso; first | (simp at h; done) | (simp at h; omega)
    · try simp only [lv1, lv2, lv3, lv4, lv5, lv6, Bool.not_true, Bool.not_false] at h
      refine tlm ?_; refine tlm ?_; refine tv (o_gtr rfl rfl) ?_; refine tv (o_pick_f rfl (by conv => lhs; whnf)) ?_; refine tlm ?_; refine tl_bool (d := 35) rfl (fun h => ?_) (fun h => ?_)
      · exfalso; first | (simp at h; done) | (simp at h; omega)
      · try simp only [lv1, lv2, lv3, lv4, lv5, lv6, Bool.not_true, Bool.not_false] at h
        refine tlm ?_; refine tv (o_len Tryz.underlying57 rfl) ?_; refine tlm ?_; refine tlm ?_; refine tv (o_subI rfl rfl (by omega)) ?_; refine tv (o_gtr rfl rfl) ?_; refine tv (o_pick_f rfl (by conv => lhs; whnf)) ?_; refine nq ?_; refine tc_cond rfl (fun h => ?_) (fun h => ?_)
        · exfalso; first | (simp at h; done) | (simp at h; omega)
        · try simp only [lv1, lv2, lv3, lv4, lv5, lv6, Bool.not_true, Bool.not_false] at h
          refine tc_skip ?_; refine q_then_n ?_; refine tc_seq ?_; refine sr ?_; refine tlm ?_; refine tv (o_len Tryz.underlying57 rfl) ?_; refine tlm ?_; refine nq ?_; refine tc_block ?_; refine tc_loop (fun kk ρ BB => ∃ (i : Nat) (M1 : MS), (i ≤ m) ∧ (MF M1 n (layF q (xs.take i) fr f)) ∧ kk = m - i ∧ ρ 45 = .int .i64 (i : Nat) ∧ ρ 0 = .pointer (some ⟨t, 0, none⟩) ∧ ρ 1 = .int .i64 (q : Nat) ∧ ρ 3 = .bool fr ∧ ρ 43 = .slice a m c ∧ ρ 44 = .int .i64 (m : Nat) ∧ Dr BB (R * pt p (cl (pocs lg d (some t)) 110) * pt lg (cl (lcs11 d at_ sz) 99) * Dev d s * pt t (cl (txcs p mb false) 113) * pt mb (mpo .i64 M1))) (m := m - (0)) ?_ ?_
          · exact ⟨0, M, by omega, by rw [layF_zero]; exact hM, rfl, rfl, rfl, rfl, rfl, rfl, rfl, (by repeat (first | with_reducible exact dr_refl | apply dr_keep | apply dr_drop))⟩
          · intro k ρ B hI
            obtain ⟨i, M1, hp0, hp1, hkk1, hE45, hE0, hE1, hE3, hE43, hE44, hBA⟩ := hI
            refine tc_pre hBA.sat ?_
            clear hBA
            refine tc_env (d := 45) hE45 ?_; refine tc_env (d := 0) hE0 ?_; refine tc_env (d := 1) hE1 ?_; refine tc_env (d := 3) hE3 ?_; refine tc_env (d := 43) hE43 ?_; refine tc_env (d := 44) hE44 ?_
            clear hE45 hE0 hE1 hE3 hE43 hE44
            refine sr ?_; refine tv (o_lss rfl rfl) ?_; refine nq ?_; refine tc_seq ?_; refine tc_cond rfl (fun h => ?_) (fun h => ?_)
            · have hi : i < xs.length := by simp at h; omega
              obtain ⟨x, hx1⟩ : ∃ x, xs[i] = x := ⟨_, rfl⟩
              have hx8 : x < 256 := hx1 ▸ hb _ (List.getElem_mem hi)
              have hlay := mf_lay hp1 hi hx1 hx8 (by omega)
              have hget := hp1.get (q + i)
              obtain ⟨o, ho9⟩ : ∃ o, layF q (xs.take i) fr f (q + i) = o := ⟨_, rfl⟩
              rw [ho9] at hlay hget
              refine tc_skip ?_; refine q_then_n ?_; refine tc_seq ?_; refine tc_block ?_; refine sr ?_; refine tlm ?_; refine tv (o_ixP1 Tryz.underlying57 sz5 rfl rfl (by first | omega | (simp only [bys_length, ints_length, wds_length, bos_length, List.length_append, List.length_take, List.length_drop, List.length_singleton]; omega)) (by repeat (first | exact nn_some | with_reducible exact nn_sl (by decide) | exact nn_rs (by assumption) (fun _ => by first | omega | (simp only [bys_length, ints_length, wds_length, bos_length, List.length_append, List.length_take, List.length_drop, List.length_singleton]; omega)) | apply Nn.left))) ?_; refine tv (o_ldP p5 rfl (by repeat (first | exact hr | apply Rs.left)) (bys_at hi)) ?_; refine tl_env (d := 49) (v := .int .u8 ((x : Nat) : Int)) (by show Value.int .u8 ((xs[i] : Nat) : Int) = _; rw [hx1]) ?_; refine tla ?_; refine tla ?_; refine nq ?_; refine sr ?_; refine tlm ?_; refine tv (o_nilCheck rfl) ?_; refine tv (o_fieldAddr (o := 1) Tryz.underlying113 rfl rfl sz111 rfl) ?_; refine tv (o_load p111 rfl (by repeat (first | with_reducible exact has_here | with_reducible exact has_pt | apply has_left)) rfl) ?_; refine tlm ?_
              refine tlm ?_; refine tv (by first | exact o_addI rfl rfl (by omega) | exact o_add rfl rfl) ?_; refine tl_env (d := 57) (v := .int .i64 ((q + i : Nat) : Int)) (by first | rfl | (show Value.int .i64 _ = _; congr 1; omega)) ?_; refine tv (o_lookupOk (ik := .i64) Tryz.underlying111 Tryz.underlying3 z185 rfl rfl (by repeat (first | with_reducible exact has_here | with_reducible exact has_pt | apply has_left))) ?_; refine tl_env (d := 58) (v := .tuple #[.agg (cel0 (o.getD (0, false))).toArray, .bool o.isSome]) (by show Value.tuple #[(M1.get ((q + i : Nat) : Int)).getD _, .bool (M1.get ((q + i : Nat) : Int)).isSome] = _; rw [hget]; cases o <;> rfl) ?_; refine tlm ?_; refine tv (o_extract rfl rfl) ?_; refine tv (o_extract rfl rfl) ?_; refine tl_x rfl (o_alloc z185 rfl) ?_; rintro _ _ ⟨b13, rfl, rfl⟩; refine tl_u rfl (o_stUN (l' := cel0 (o.getD (0, false))) rfl (by repeat (first | with_reducible exact upd_here | with_reducible exact upd_pt | apply upd_left)) sz185 rfl rfl rfl (by show 2 ≤ 2; decide) rfl) ?_; refine tla ?_; refine nq ?_; refine tc_seq ?_; refine sr ?_; refine tlm ?_; refine tv (o_not rfl) ?_; refine nq ?_; refine tc_cut (fun ρ BB => ρ 0 = .pointer (some ⟨t, 0, none⟩) ∧ ρ 1 = .int .i64 (q : Nat) ∧ ρ 3 = .bool fr ∧ ρ 11 = .int .i64 (i : Nat) ∧ ρ 12 = .int .u8 ((x : Nat) : Int) ∧ ρ 13 = .pointer (some ⟨b13, 0, none⟩) ∧ ρ 43 = .slice a m c ∧ ρ 44 = .int .i64 (m : Nat) ∧ ρ 45 = .int .i64 (i : Nat) ∧ BB = R * pt p (cl (pocs lg d (some t)) 110) * pt lg (cl (lcs11 d at_ sz) 99) * Dev d s * pt t (cl (txcs p mb false) 113) * pt mb (mpo .i64 M1) * pt b13 (cl [.int .u8 (((o.getD (0, false)).1 : Nat) : Int), .bool ((o.map (·.2)).getD fr)] 185)) ?_ ?_
              · skip
                refine tc_cond rfl (fun h => ?_) (fun h => ?_)
                · obtain rfl : o = none := by cases o <;> simp at h ⊢
                  refine tc_reg ?_; refine tlm ?_; refine tv (o_fieldAddr (o := 1) Tryz.underlying185 rfl rfl sz4 rfl) ?_; refine tl_u rfl (o_stU (l' := [.int .u8 0, .bool fr]) rfl (by repeat (first | with_reducible exact upd_here | with_reducible exact upd_pt | apply upd_left)) sz4 rfl rfl (by show 1 < 2; decide) rfl) ?_; refine tl_nil ?_; exact ⟨rfl, rfl, rfl, rfl, rfl, rfl, rfl, rfl, rfl, rfl⟩
                · obtain ⟨c0, rfl⟩ : ∃ c0, o = some c0 := by cases o <;> simp at h ⊢
                  refine tc_skip ?_; exact ⟨rfl, rfl, rfl, rfl, rfl, rfl, rfl, rfl, rfl, rfl⟩
              · intro ρ B hI
                obtain ⟨hE0, hE1, hE3, hE11, hE12, hE13, hE43, hE44, hE45, rfl⟩ := hI
                refine q_then_n ?_; refine tc_env (d := 0) hE0 ?_; refine tc_env (d := 1) hE1 ?_; refine tc_env (d := 3) hE3 ?_; refine tc_env (d := 11) hE11 ?_; refine tc_env (d := 12) hE12 ?_; refine tc_env (d := 13) hE13 ?_; refine tc_env (d := 43) hE43 ?_; refine tc_env (d := 44) hE44 ?_; refine tc_env (d := 45) hE45 ?_
                clear hE0 hE1 hE3 hE11 hE12 hE13 hE43 hE44 hE45
                refine sr ?_; refine tlm ?_; refine tv (o_fieldAddr (o := 0) Tryz.underlying185 rfl rfl sz5 rfl) ?_; refine tl_u rfl (o_stU (l' := cel0 (x, (o.map (·.2)).getD fr)) rfl (by repeat (first | with_reducible exact upd_here | with_reducible exact upd_pt | apply upd_left)) sz5 rfl rfl (by show 0 < 2; decide) rfl) ?_; refine nq ?_; refine tc_regh (S := R * pt p (cl (pocs lg d (some t)) 110) * pt lg (cl (lcs11 d at_ sz) 99) * Dev d s * pt t (cl (txcs p mb false) 113) * pt b13 (cl (cel0 (x, (o.map (·.2)).getD fr)) 185)) mo (by repeat (first | with_reducible exact dr_refl | apply dr_keep | apply dr_drop)) ?_
                show TH _ _ _ _ _ 9 #[ff,ff,ff,ff,ff,ff,ff,ff,ff] _ _
                refine th_take (i := 0) (listed' := #[tt,ff,ff,ff,ff,ff,ff,ff,ff]) rfl (by kernel_rfl) (by kernel_rfl) (by kernel_rfl) rfl rfl (o_move (by conv => lhs; whnf)) ?_; refine th_take (i := 1) (listed' := #[tt,tt,ff,ff,ff,ff,ff,ff,ff]) rfl (by kernel_rfl) (by kernel_rfl) (by kernel_rfl) rfl rfl (o_nilCheck rfl) ?_; refine th_take (i := 2) (listed' := #[tt,tt,tt,ff,ff,ff,ff,ff,ff]) rfl (by kernel_rfl) (by kernel_rfl) (by kernel_rfl) rfl rfl (o_fieldAddr (o := 1) Tryz.underlying113 rfl rfl sz111 rfl) ?_; refine th_take (i := 3) (listed' := #[tt,tt,tt,tt,ff,ff,ff,ff,ff]) rfl (by kernel_rfl) (by kernel_rfl) (by kernel_rfl) rfl rfl (o_load p111 rfl (by repeat (first | with_reducible exact has_here | with_reducible exact has_pt | apply has_left)) rfl) ?_; refine th_take (i := 4) (listed' := #[tt,tt,tt,tt,tt,ff,ff,ff,ff]) rfl (by kernel_rfl) (by kernel_rfl) (by kernel_rfl) rfl rfl (o_move (by conv => lhs; whnf)) ?_; refine th_take (i := 5) (listed' := #[tt,tt,tt,tt,tt,tt,ff,ff,ff]) rfl (by kernel_rfl) (by kernel_rfl) (by kernel_rfl) rfl rfl (o_move (by conv => lhs; whnf)) ?_; refine th_take (i := 6) (listed' := #[tt,tt,tt,tt,tt,tt,tt,ff,ff]) rfl (by kernel_rfl) (by kernel_rfl) (by kernel_rfl) rfl rfl (by first | exact o_addI rfl rfl (by omega) | exact o_add rfl rfl) ?_; refine th_env (d := 73) (v := .int .i64 ((q + i : Nat) : Int)) (by first | rfl | (show Value.int .i64 _ = _; congr 1; omega)) ?_
                refine th_take (i := 7) (listed' := #[tt,tt,tt,tt,tt,tt,tt,tt,ff]) rfl (by kernel_rfl) (by kernel_rfl) (by kernel_rfl) rfl rfl (o_loadN (vs := cel0 (x, (o.map (·.2)).getD fr)) a185 sz185 rfl (by repeat (first | with_reducible exact has_here | with_reducible exact has_pt | apply has_left)) (by show 2 ≤ 2; decide) rfl) ?_; refine th_one (i := 8) (by kernel_rfl) ?_; refine oh_u (i := 8) (listed' := #[tt,tt,tt,tt,tt,tt,tt,tt,tt]) rfl rfl rfl (o_mapUpdate (ik := .i64) (M := M1) (v := encC (x, (o.map (·.2)).getD fr)) Tryz.underlying111 Tryz.underlying3 rfl (by repeat (first | with_reducible exact upd_here | with_reducible exact upd_pt | apply upd_left)) rfl rfl rfl) (by repeat (first | with_reducible exact dr_refl | apply dr_keep | apply dr_drop)) ?_; refine th_done (by kernel_rfl) ?_; refine q_block_n (q_then_n ?_); refine tc_reg ?_; refine tv (by first | exact o_addI rfl rfl (by omega) | exact o_add rfl rfl) ?_; refine tlm ?_; refine nq ?_; exact ⟨_, by omega, i + 1, _, by omega, hlay, rfl, rfl, rfl, rfl, rfl, rfl, rfl, (by repeat (first | with_reducible exact dr_refl | apply dr_keep | apply dr_drop))⟩
            · obtain rfl : i = m := by simp at h; omega
              rw [List.take_of_length_le (show xs.length ≤ i by omega)] at hp1
              refine tc_exit ?_; refine q_then_e (q_then_e (q_block_x (q_then_n ?_))); refine sr ?_; refine tla ?_; refine nq ?_; refine tc_ret ?_; exact ⟨.int .i64 0, C (TxA t p lg d mb at_ sz M1 false s), res1 rfl rfl, (fun g w h => by rw [hC]; exact (Dr.sat (A' := R * pt p (cl (pocs lg d (some t)) 110) * pt lg (cl (lcs11 d at_ sz) 99) * Dev d s * pt t (cl (txcs p mb false) 113) * pt mb (mpo .i64 M1)) (by repeat (first | with_reducible exact dr_refl | apply dr_keep | apply dr_drop)) g w h).perm (by unfold TxA; rw [if_neg (by decide)]; ac_rfl)), M1, rfl, hp1, rfl⟩
end Go.Vl

namespace Go.Vl
open Go Go.Proofs
def adjB (out : List (Nat × List Nat)) (a : Nat) : Bool := match out.getLast? with
  | some r => decide (r.1 + r.2.length = a)
  | none => false
attribute [local irreducible] crk crL crc Sl pt ro Dev imgS recS readS recsF rdW rdO rkT Parts rvl recordsS runsL adrF kcl kys runA
end Go.Vl

namespace Go.Vl
open Go Go.Proofs
def ovK (f : TF) (q i : Nat) (xs : List Nat) : List Nat := xs.mapIdx fun j x => if j < i then ((f (q + j)).map (·.1)).getD x else x
theorem ovK_len (f : TF) (q i : Nat) (xs : List Nat) : (ovK f q i xs).length = xs.length := by simp [ovK]
theorem ovK_zero (f : TF) (q : Nat) (xs : List Nat) : ovK f q 0 xs = xs := by
  apply List.ext_getElem?; intro j; unfold ovK; rw [List.getElem?_mapIdx]
  cases xs[j]? <;> simp
theorem ovK_all (f : TF) (q : Nat) (xs : List Nat) : ovK f q xs.length xs = ovF f q xs := by
  apply List.ext_getElem?; intro j; unfold ovK ovF; rw [List.getElem?_mapIdx, List.getElem?_mapIdx]
  cases h : xs[j]? with
  | none => rfl
  | some x => obtain ⟨hj, _⟩ := List.getElem?_eq_some_iff.1 h; simp only [Option.map_some]; rw [if_pos hj]
theorem ovK_none {f : TF} {q i : Nat} {xs : List Nat} (h : f (q + i) = none) : ovK f q (i + 1) xs = ovK f q i xs := by
  apply List.ext_getElem?; intro j; unfold ovK; rw [List.getElem?_mapIdx, List.getElem?_mapIdx]
  cases xs[j]? with
  | none => rfl
  | some x =>
    simp only [Option.map_some]
    by_cases hj : j = i
    · subst hj; rw [if_pos (by omega), if_neg (by omega), h]; rfl
    · by_cases h2 : j < i
      · rw [if_pos (show j < i + 1 by omega), if_pos h2]
      · rw [if_neg (show ¬ j < i + 1 by omega), if_neg h2]
theorem ovK_some {f : TF} {q i : Nat} {xs : List Nat} {c : Nat × Bool} (h : f (q + i) = some c) (hi : i < xs.length) : (ovK f q i xs).set i c.1 = ovK f q (i + 1) xs := by
  apply List.ext_getElem?; intro j
  rw [List.getElem?_set, ovK_len]
  unfold ovK; rw [List.getElem?_mapIdx, List.getElem?_mapIdx]
  by_cases hj : i = j
  · subst hj
    rw [if_pos rfl, if_pos hi, List.getElem?_eq_getElem hi]
    simp only [Option.map_some]; rw [if_pos (by omega), h]; rfl
  · rw [if_neg hj]
    cases xs[j]? with
    | none => rfl
    | some x =>
      simp only [Option.map_some]
      by_cases h2 : j < i
      · rw [if_pos (show j < i + 1 by omega), if_pos h2]
      · rw [if_neg (show ¬ j < i + 1 by omega), if_neg h2]
attribute [local irreducible] crk crL crc Sl pt ro Dev imgS recS readS recsF rdW rdO rkT Parts rvl recordsS runsL adrF kcl xcl kys runA runsF layF
theorem StoreT_c {A R : SP} {C : SP → SP} {t p lg d mb at_ sz : Nat} {M : MS} {s : DevS} (hc : Ct A (TxA t p lg d mb at_ sz M false s) R C := by repeat (first | with_reducible exact ct_here | apply ct_left)) {n : Nat} {f : TF} {a : Option Addr} {c m q : Nat} {xs : List Nat} (hM : MF M n f) (hn : n = s.ls.length * 64 := by omega) (ho : s.off = false := by assumption) (hr : Rs R a (bys xs) := by repeat (first | assumption | with_reducible exact rs_sl | with_reducible exact rs_pt0 | exact rs_none | apply Rs.left)) (hm : xs.length = m := by first | assumption | rfl) (hb : ∀ x ∈ xs, x < 256 := by assumption) (hqm : q + m ≤ n := by omega) :
    Fn Tryz.prog 46 #[.pointer (some ⟨t, 0, none⟩), .int .i64 (q : Nat), .slice a m c] (A) (fun r B => ∃ M2, r = .int .i64 0 ∧ MF M2 n (layF q xs false f) ∧ B = C (TxA t p lg d mb at_ sz M2 false s)) := by
  refine fn_enterW (args := [.pointer (some ⟨t, 0, none⟩), .int .i64 (q : Nat), .slice a m c]) Tryz.func46 rfl Tryz.ntmps46 (by simp) ?_; refine sr ?_; refine tla ?_; refine nq ?_; refine sr ?_; refine tlm ?_; refine tlm ?_; refine tlm ?_; refine tl_c rfl (o_call bd113 rfl (lay12_c (hc := hc) (n := n) (f := f) (fr := false) (xs := xs) (hM := hM) (hn := hn) (ho := ho) (hr := hr) (hm := hm) (hb := hb) (hqm := hqm))) ?_; rintro _ _ ⟨M2, rfl, hM2, rfl⟩; refine tla ?_; refine nq ?_; refine tc_ret ?_; exact ⟨.int .i64 0, _, res1 rfl rfl, fun _ _ h => h, M2, rfl, hM2, rfl⟩
theorem FreshT_c {A R : SP} {C : SP → SP} {t p lg d mb at_ sz : Nat} {M : MS} {s : DevS} (hc : Ct A (TxA t p lg d mb at_ sz M false s) R C := by repeat (first | with_reducible exact ct_here | apply ct_left)) {n : Nat} {f : TF} {a : Option Addr} {c m q : Nat} {xs : List Nat} (hM : MF M n f) (hn : n = s.ls.length * 64 := by omega) (ho : s.off = false := by assumption) (hr : Rs R a (bys xs) := by repeat (first | assumption | with_reducible exact rs_sl | with_reducible exact rs_pt0 | exact rs_none | apply Rs.left)) (hm : xs.length = m := by first | assumption | rfl) (hb : ∀ x ∈ xs, x < 256 := by assumption) (hqm : q + m ≤ n := by omega) :
    Fn Tryz.prog 47 #[.pointer (some ⟨t, 0, none⟩), .int .i64 (q : Nat), .slice a m c] (A) (fun r B => ∃ M2, r = .int .i64 0 ∧ MF M2 n (layF q xs true f) ∧ B = C (TxA t p lg d mb at_ sz M2 false s)) := by
  refine fn_enterW (args := [.pointer (some ⟨t, 0, none⟩), .int .i64 (q : Nat), .slice a m c]) Tryz.func47 rfl Tryz.ntmps47 (by simp) ?_; refine sr ?_; refine tla ?_; refine nq ?_; refine sr ?_; refine tlm ?_; refine tlm ?_; refine tlm ?_; refine tl_c rfl (o_call bd113 rfl (lay12_c (hc := hc) (n := n) (f := f) (fr := true) (xs := xs) (hM := hM) (hn := hn) (ho := ho) (hr := hr) (hm := hm) (hb := hb) (hqm := hqm))) ?_; rintro _ _ ⟨M2, rfl, hM2, rfl⟩; refine tla ?_; refine nq ?_; refine tc_ret ?_; exact ⟨.int .i64 0, _, res1 rfl rfl, fun _ _ h => h, M2, rfl, hM2, rfl⟩
set_option maxRecDepth 20000 in
set_option maxHeartbeats 1000000 in
theorem LoadT_c {A R : SP} {C : SP → SP} {t p lg d mb at_ sz : Nat} {M : MS} {s : DevS} (hc : Ct A (TxA t p lg d mb at_ sz M false s) R C := by repeat (first | with_reducible exact ct_here | apply ct_left)) {n : Nat} {f : TF} {q m : Nat} (hM : MF M n f) (hn : n = s.ls.length * 64 := by omega) (ho : s.off = false := by assumption) (hqm : q + m ≤ n := by omega) :
    Fn Tryz.prog 43 #[.pointer (some ⟨t, 0, none⟩), .int .i64 (q : Nat), .int .i64 (m : Nat)] (A) (fun r B => ∃ a c, r = .tuple #[.slice a m c, .int .i64 0] ∧ m ≤ c ∧ B = A * Sl 1 (.slice a m c) m (bys (ovF f q (((imgS s).drop q).take m)))) := by
  refine fn_enterW (args := [.pointer (some ⟨t, 0, none⟩), .int .i64 (q : Nat), .int .i64 (m : Nat)]) Tryz.func43 rfl Tryz.ntmps43 (by simp) ?_
  obtain ⟨rfl, hC⟩ := hc
  refine tc_eq (show _ = R * pt p (cl (pocs lg d (some t)) 110) * pt lg (cl (lcs11 d at_ sz) 99) * Dev d s * pt t (cl (txcs p mb false) 113) * pt mb (mpo .i64 M) by unfold TxA; rw [if_neg (by decide)]; ac_rfl) ?_; refine tc_have (fun _ _ h => ct_wf2 (by repeat (first | with_reducible exact ct_here | apply ct_left)) h) fun hwf => ?_
  have htop := hwf.top
  have hil := imgS_len hwf
  obtain ⟨xs, hxs⟩ : ∃ xs, (((imgS s).drop q).take m) = xs := ⟨_, rfl⟩
  have hxl : xs.length = m := by rw [← hxs, List.length_take, List.length_drop]; omega
  refine sr ?_; refine tla ?_; refine tla ?_; refine nq ?_; refine tc_seq ?_; refine sr ?_; refine tlm ?_; refine tl_c rfl (o_call bd95 rfl (begun12_c (s := s))) ?_; rintro _ _ ⟨rfl, rfl⟩; refine tla ?_; refine nq ?_; refine sr ?_; refine tlm ?_; refine tv (o_nei rfl rfl) ?_; refine nq ?_; refine tc_cond rfl (fun h => ?_) (fun h => ?_)
  · exfalso; simp at h
  · try simp only [lv1, lv2, lv3, lv4, lv5, lv6, Bool.not_true, Bool.not_false] at h
    refine tc_skip ?_; refine q_then_n ?_; refine sr ?_; refine tlm ?_; refine tv (o_nilCheck rfl) ?_; refine tv (o_fieldAddr (o := 0) Tryz.underlying113 rfl rfl sz69 rfl) ?_; refine tv (o_load p69 rfl (by repeat (first | with_reducible exact has_here | with_reducible exact has_pt | apply has_left)) rfl) ?_; refine tv (o_nilCheck rfl) ?_; refine tv (o_fieldAddr (o := 0) Tryz.underlying110 rfl rfl sz47 rfl) ?_; refine tv (o_load p47 rfl (by repeat (first | with_reducible exact has_here | with_reducible exact has_pt | apply has_left)) rfl) ?_; refine tlm ?_; refine tlm ?_; refine tl_c rfl (o_call bd110 rfl (Load_c (s := s) (p := q) (m := m))) ?_; rintro _ _ ⟨a29, c29, rfl, hc29, rfl⟩
    rw [hxs]
    refine tlm ?_; refine tv (o_extract rfl rfl) ?_; refine tv (o_extract rfl rfl) ?_; refine tla ?_; refine tla ?_; refine nq ?_; refine tc_seq ?_; refine sr ?_; refine tlm ?_; refine tv (o_len Tryz.underlying57 rfl) ?_; refine tlm ?_; refine nq ?_; refine tc_block ?_; refine tc_loop (fun kk ρ BB => ∃ (i : Nat), (i ≤ m) ∧ kk = m - i ∧ ρ 34 = .int .i64 (i : Nat) ∧ ρ 0 = .pointer (some ⟨t, 0, none⟩) ∧ ρ 1 = .int .i64 (q : Nat) ∧ ρ 9 = .slice a29 m c29 ∧ ρ 10 = .int .i64 0 ∧ ρ 33 = .int .i64 (m : Nat) ∧ Dr BB (R * pt p (cl (pocs lg d (some t)) 110) * pt lg (cl (lcs11 d at_ sz) 99) * Dev d s * pt t (cl (txcs p mb false) 113) * pt mb (mpo .i64 M) * Sl 1 (.slice a29 m c29) m (bys (ovK f q i xs)))) (m := m - (0)) ?_ ?_
    · exact ⟨0, by omega, rfl, rfl, rfl, rfl, rfl, rfl, rfl, by rw [ovK_zero]; exact dr_refl⟩
    · intro k ρ B hI
      obtain ⟨i, hp0, hkk1, hE34, hE0, hE1, hE9, hE10, hE33, hBA⟩ := hI
      refine tc_pre hBA.sat ?_
      clear hBA
      refine tc_env (d := 34) hE34 ?_; refine tc_env (d := 0) hE0 ?_; refine tc_env (d := 1) hE1 ?_; refine tc_env (d := 9) hE9 ?_; refine tc_env (d := 10) hE10 ?_; refine tc_env (d := 33) hE33 ?_
      clear hE34 hE0 hE1 hE9 hE10 hE33
      refine sr ?_; refine tv (o_lss rfl rfl) ?_; refine nq ?_; refine tc_seq ?_; refine tc_cond rfl (fun h => ?_) (fun h => ?_)
      · have hi : i < xs.length := by simp at h; omega
        have hget := hM.get (q + i)
        obtain ⟨o, ho9⟩ : ∃ o, f (q + i) = o := ⟨_, rfl⟩
        rw [ho9] at hget
        have hkl := ovK_len f q i xs
        refine tc_skip ?_; refine q_then_n ?_; refine tc_seq ?_; refine tc_block ?_; refine sr ?_; refine tlm ?_; refine tla ?_; refine nq ?_; refine sr ?_; refine tlm ?_; refine tv (o_nilCheck rfl) ?_; refine tv (o_fieldAddr (o := 1) Tryz.underlying113 rfl rfl sz111 rfl) ?_; refine tv (o_load p111 rfl (by repeat (first | with_reducible exact has_here | with_reducible exact has_pt | apply has_left)) rfl) ?_; refine tlm ?_; refine tlm ?_; refine tv (by first | exact o_addI rfl rfl (by omega) | exact o_add rfl rfl) ?_; refine tl_env (d := 44) (v := .int .i64 ((q + i : Nat) : Int)) (by first | rfl | (show Value.int .i64 _ = _; congr 1; omega)) ?_; refine tv (o_lookupOk (ik := .i64) Tryz.underlying111 Tryz.underlying3 z185 rfl rfl (by repeat (first | with_reducible exact has_here | with_reducible exact has_pt | apply has_left))) ?_; refine tl_env (d := 45) (v := .tuple #[.agg (cel0 (o.getD (0, false))).toArray, .bool o.isSome]) (by show Value.tuple #[(M.get ((q + i : Nat) : Int)).getD _, .bool (M.get ((q + i : Nat) : Int)).isSome] = _; rw [hget]; cases o <;> rfl) ?_; refine tlm ?_; refine tv (o_extract rfl rfl) ?_; refine tv (o_extract rfl rfl) ?_; refine tl_x rfl (o_alloc z185 rfl) ?_; rintro _ _ ⟨b12, rfl, rfl⟩; refine tl_u rfl (o_stUN (l' := cel0 (o.getD (0, false))) rfl (by repeat (first | with_reducible exact upd_here | with_reducible exact upd_pt | apply upd_left)) sz185 rfl rfl rfl (by show 2 ≤ 2; decide) rfl) ?_
        refine tla ?_; refine nq ?_; refine sr ?_; refine tlm ?_; refine nq ?_; refine tc_cut (fun ρ BB => ρ 0 = .pointer (some ⟨t, 0, none⟩) ∧ ρ 1 = .int .i64 (q : Nat) ∧ ρ 9 = .slice a29 m c29 ∧ ρ 10 = .int .i64 0 ∧ ρ 33 = .int .i64 (m : Nat) ∧ ρ 34 = .int .i64 (i : Nat) ∧ Dr BB (R * pt p (cl (pocs lg d (some t)) 110) * pt lg (cl (lcs11 d at_ sz) 99) * Dev d s * pt t (cl (txcs p mb false) 113) * pt mb (mpo .i64 M) * Sl 1 (.slice a29 m c29) m (bys (ovK f q (i + 1) xs)))) ?_ ?_
        · skip
          refine tc_cond rfl (fun h => ?_) (fun h => ?_)
          · obtain ⟨c0, rfl⟩ : ∃ c0, o = some c0 := by cases o <;> simp at h ⊢
            have hc8 := hM.by_ _ _ ho9
            refine tc_reg ?_; refine tlm ?_; refine tlm ?_; refine tv (o_fieldAddr (o := 0) Tryz.underlying185 rfl rfl sz5 rfl) ?_; refine tv (by first | exact o_load p5 rfl (by repeat (first | with_reducible exact has_here | with_reducible exact has_pt | apply has_left)) rfl | exact o_loadC p5 rfl (by assumption)) ?_; refine tv (o_ixP1 Tryz.underlying57 sz5 rfl rfl (by omega) (nn_rs (xs := bys (ovK f q i xs)) (by repeat (first | with_reducible exact rs_sl | apply Rs.left)) (by rw [bys_length]; omega))) ?_; refine tl_u rfl (o_stP (ys := bys ((ovK f q i xs).set i c0.1)) sz5 rfl rfl rfl (by repeat (first | with_reducible exact ct_here | apply ct_left)) (by omega) (bys_set _ _ _)) ?_; refine tl_nil ?_; exact ⟨rfl, rfl, rfl, rfl, rfl, rfl, by first | (rw [ovK_none ho9]; exact dr_drop dr_refl) | (rw [← ovK_some ho9 hi]; repeat (first | with_reducible exact dr_refl | apply dr_keep | apply dr_drop))⟩
          · obtain rfl : o = none := by cases o <;> simp at h ⊢
            refine tc_skip ?_; exact ⟨rfl, rfl, rfl, rfl, rfl, rfl, by first | (rw [ovK_none ho9]; exact dr_drop dr_refl) | (rw [← ovK_some ho9 hi]; repeat (first | with_reducible exact dr_refl | apply dr_keep | apply dr_drop))⟩
        · intro ρ B hI
          obtain ⟨hE0, hE1, hE9, hE10, hE33, hE34, hBA⟩ := hI
          refine q_block_n (q_then_n ?_); refine tc_pre hBA.sat ?_
          clear hBA
          refine tc_env (d := 0) hE0 ?_; refine tc_env (d := 1) hE1 ?_; refine tc_env (d := 9) hE9 ?_; refine tc_env (d := 10) hE10 ?_; refine tc_env (d := 33) hE33 ?_; refine tc_env (d := 34) hE34 ?_
          clear hE0 hE1 hE9 hE10 hE33 hE34
          refine tc_reg ?_; refine tv (by first | exact o_addI rfl rfl (by omega) | exact o_add rfl rfl) ?_; refine tlm ?_; refine nq ?_; exact ⟨_, by omega, i + 1, by omega, rfl, rfl, rfl, rfl, rfl, rfl, rfl, (by repeat (first | with_reducible exact dr_refl | apply dr_keep | apply dr_drop))⟩
      · obtain rfl : i = m := by simp at h; omega
        refine tc_exit ?_; refine q_then_e (q_then_e (q_block_x (q_then_n ?_))); refine sr ?_; refine tlm ?_; refine tlm ?_; refine tla ?_; refine tla ?_; refine nq ?_; refine tc_ret ?_
        have e9 : ovK f q i xs = ovF f q xs := by rw [← hxl]; exact ovK_all f q xs
        rw [e9]
        exact ⟨_, R * TxA t p lg d mb at_ sz M false s * Sl 1 (.slice a29 i c29) i (bys (ovF f q xs)), res2 rfl rfl rfl, fun g w h => (Dr.sat (A' := R * pt p (cl (pocs lg d (some t)) 110) * pt lg (cl (lcs11 d at_ sz) 99) * Dev d s * pt t (cl (txcs p mb false) 113) * pt mb (mpo .i64 M) * Sl 1 (.slice a29 i c29) i (bys (ovF f q xs))) (by repeat (first | with_reducible exact dr_refl | apply dr_keep | apply dr_drop)) g w h).perm (by unfold TxA; rw [if_neg (by decide)]; ac_rfl), a29, c29, rfl, hc29, rfl⟩
end Go.Vl

namespace Go.Vl
open Go Go.Proofs
/-- What is written lies on the device. -/
def RunW (n : Nat) (L : List (Nat × List Nat)) : Prop := ∀ r ∈ L, 1 ≤ r.2.length ∧ r.1 + r.2.length ≤ n ∧ ∀ b ∈ r.2, b < 256
attribute [local irreducible] crk crL crc Sl pt ro Dev imgS recS readS recsF rdW rdO rkT Parts rvl recordsS runsL adrF kcl xcl kys runA runsF layF linR flLs stoL
end Go.Vl

namespace Go.Vl
open Go Go.Proofs
/-- What runs of so many addresses are. -/
structure RunP (n k : Nat) (out : List (Nat × List Nat)) : Prop where
  sum : sumL out = k
  len : out.length ≤ k
  ok : RunW n out
section
variable {at_ sz n : Nat} {f : TF} {s s1 s2 s3 s4 s5 : DevS} {e : Int}
end
/-! ### A map that is emptied -/
theorem del_c (M : MS) (a : Int) : (M.del a).c = M.c := by unfold MS.del; split <;> rfl
theorem del_sub (M : MS) (a : Int) : (M.del a).D.Sublist M.D := by
  unfold MS.del
  split
  · exact List.eraseIdx_sublist _ _
  · exact List.Sublist.refl _
theorem wfM_del {M : MS} (h : WfM M) (a : Int) : WfM (M.del a) := ⟨h.keys.sublist ((del_sub M a).map _), h.born.sublist ((del_sub M a).map _), fun e he => by rw [del_c]; exact h.past e ((del_sub M a).subset he)⟩
theorem del_mem {M : MS} {e : ME} (h : WfM M) (he : e ∈ M.D) : (M.del e.k).D.length < M.D.length ∧ ∀ x ∈ (M.del e.k).D, x.b ≠ e.b := by
  obtain ⟨i, hi⟩ := mfind_mem h.keys he
  obtain ⟨hil, hk, _⟩ := mfind_some hi
  have hD : (M.del e.k).D = M.D.eraseIdx i := by unfold MS.del; rw [hi]
  rw [hD]
  refine ⟨by rw [List.length_eraseIdx_of_lt hil]; omega, fun x hx hxb => ?_⟩
  have hei : M.D[i] = e := by
    obtain ⟨j, hj, hje⟩ := List.mem_iff_getElem.1 he
    have hkk : (M.D.map ME.k)[i]? = (M.D.map ME.k)[j]? := by
      rw [List.getElem?_map, List.getElem?_map, List.getElem?_eq_getElem hil, List.getElem?_eq_getElem hj]
      simp only [Option.map_some]; rw [hk, hje]
    have hij := (List.getElem?_inj (by simpa using hil) h.keys).1 hkk
    subst hij; exact hje
  rw [List.mem_eraseIdx_iff_getElem] at hx
  obtain ⟨j, hj, hji, hjx⟩ := hx
  have hbb : (M.D.map ME.b)[i]? = (M.D.map ME.b)[j]? := by
    rw [List.getElem?_map, List.getElem?_map, List.getElem?_eq_getElem hil, List.getElem?_eq_getElem hj]
    simp only [Option.map_some]; rw [hei, hjx, hxb]
  exact hji ((List.getElem?_inj (by simpa using hil) h.born).1 hbb).symm
end Go.Vl

namespace Go.Vl
open Go Go.Proofs
/-- What the statement's own example puts in. -/
def fW1 : TF := layF 64 [1, 2, 3] false tf0
def fW : TF := layF 66 [9, 9] true fW1
attribute [local irreducible] crk crL crc Sl pt ro Dev imgS recS readS recsF rdW rdO rkT Parts rvl recordsS runsL adrF kcl xcl kys runA runsF layF linR flLs stoL writeT writeS comS clearS extX
end Go.Vl

namespace Go.Vl
open Go Go.Proofs
section
variable {A R : SP} {C : SP → SP} {t p lg d mb at_ sz : Nat} {M : MS} {over : Bool} {s : DevS} (hc : Ct A (TxA t p lg d mb at_ sz M over s) R C)
include hc
theorem txa_dev : Ct A (Dev d s) (R * pt p (cl (pocs lg d (if over then none else some t)) 110) * pt lg (cl (lcs11 d at_ sz) 99) * pt t (cl (txcs p mb over) 113) * pt mb (mpo .i64 M)) (fun Y => R * pt p (cl (pocs lg d (if over then none else some t)) 110) * pt lg (cl (lcs11 d at_ sz) 99) * pt t (cl (txcs p mb over) 113) * pt mb (mpo .i64 M) * Y) :=
  ⟨by rw [hc.1]; unfold TxA; ac_rfl, fun _ => rfl⟩
theorem txa_wf : ∀ g w, sat g w A → WfD s := fun g w h => ct_wf2 (txa_dev hc) h
end
attribute [local irreducible] crk crL crc Sl pt ro Dev imgS recS readS recsF rdW rdO rkT Parts rvl recordsS runsL adrF kcl xcl kys runA runsF layF linR flLs stoL writeT writeS comS clearS extX ovF newS fW fW1
end Go.Vl

namespace Go.Vl
open Go Go.Proofs
/-- A set of numbers below n, as a map holds it. -/
structure SF (M : MS) (n : Nat) (g : Nat → Bool) : Prop where
  wf : WfM M
  get : ∀ a : Int, M.get a = if 0 ≤ a ∧ g a.toNat = true then some (.bool true) else none
  keys : ∀ e ∈ M.D, ∃ a : Nat, a < n ∧ e.k = (a : Int) ∧ g a = true
  out : ∀ a, n ≤ a → g a = false
def g0 : Nat → Bool := fun _ => false
theorem sf_nil (c n : Nat) : SF ⟨[], c⟩ n g0 := ⟨⟨(by simp), (by simp), fun e h => (by cases h)⟩, fun a => (by rw [MS.get_nil, if_neg (fun h => by simp [g0] at h)]), fun e h => (by cases h), fun _ _ => rfl⟩
/-- The set with a number more, or less. -/
def updG (g : Nat → Bool) (p : Nat) (b : Bool) : Nat → Bool := fun c => if c = p then b else g c
theorem put_keys {M : MS} {a : Int} {v : Value} {e : ME} (h : e ∈ (M.put a v).D) : e.k = a ∨ ∃ e' ∈ M.D, e'.k = e.k := by
  unfold MS.put at h
  split at h
  · rename_i i u hf
    obtain ⟨j, hj, rfl⟩ := List.mem_iff_getElem.1 h
    simp only [List.length_modify] at hj
    refine .inr ⟨M.D[j], List.getElem_mem _, ?_⟩
    simp only [List.getElem_modify]
    split <;> rfl
  · rcases List.mem_append.1 h with h1 | h1
    · exact .inr ⟨e, h1, rfl⟩
    · rw [List.mem_singleton.1 h1]; exact .inl rfl
theorem sf_put {M : MS} {n p : Nat} {g : Nat → Bool} (h : SF M n g) (hp : p < n) : SF (M.put (p : Int) (.bool true)) n (updG g p true) := by
  refine ⟨wfM_put h.wf, fun a => ?_, fun e he => ?_, fun a ha => ?_⟩
  · rw [MS.get_put]
    unfold updG
    by_cases hc : (p : Int) = a
    · subst hc; rw [if_pos rfl, if_pos ⟨by omega, by rw [if_pos (by simp)]⟩]
    · rw [if_neg hc, h.get a]
      by_cases h0 : 0 ≤ a
      · rw [if_neg (show ¬ a.toNat = p by omega)]
      · rw [if_neg (fun h9 => h0 h9.1), if_neg (fun h9 => h0 h9.1)]
  · rcases put_keys he with h1 | ⟨e', h1, h2⟩
    · exact ⟨p, hp, h1, by unfold updG; rw [if_pos rfl]⟩
    · obtain ⟨a, h3, h4, h5⟩ := h.keys e' h1
      refine ⟨a, h3, by rw [← h2]; exact h4, ?_⟩
      unfold updG; split
      · rfl
      · exact h5
  · unfold updG; rw [if_neg (by omega)]; exact h.out a ha
theorem mfind_mem' {D : List ME} {a : Int} {i : Nat} {v : Value} (h : mfind D a 0 = some (i, v)) : ∃ e ∈ D, e.k = a := by
  obtain ⟨hi, h1, _⟩ := mfind_some h
  exact ⟨_, List.getElem_mem hi, h1⟩
theorem del_ne {M : MS} {a : Int} (hw : WfM M) : ∀ e ∈ (M.del a).D, e.k ≠ a := fun e he hk => by
  have hm := (del_sub M a).subset he
  subst hk
  exact (del_mem hw hm).2 e he rfl
theorem del_had {M : MS} {a : Int} {e : ME} (he : e ∈ M.D) (hk : e.k ≠ a) : e ∈ (M.del a).D := by
  unfold MS.del
  split
  · rename_i i u hf
    obtain ⟨hi, h1, _⟩ := mfind_some hf
    obtain ⟨j, hj, rfl⟩ := List.mem_iff_getElem.1 he
    have hij : j ≠ i := fun e9 => by subst e9; exact hk h1
    exact List.mem_eraseIdx_iff_getElem.2 ⟨j, hj, hij, rfl⟩
  · exact he
theorem get_none {M : MS} {a : Int} (h : ∀ e ∈ M.D, e.k ≠ a) : M.get a = none := by
  unfold MS.get
  cases hf : mfind M.D a 0 with
  | none => rfl
  | some x =>
    obtain ⟨e, he, hk⟩ := mfind_mem' (i := x.1) (v := x.2) hf
    exact absurd hk (h e he)
theorem get_del {M : MS} {a c : Int} (hw : WfM M) : (M.del a).get c = if a = c then none else M.get c := by
  by_cases hc : a = c
  · subst hc; rw [if_pos rfl]; exact get_none (del_ne hw)
  · rw [if_neg hc]
    cases hg : M.get c with
    | none =>
      refine get_none fun e he hk => ?_
      have := get_mem hw ((del_sub M a).subset he)
      rw [hk, hg] at this; cases this
    | some v =>
      unfold MS.get at hg
      cases hf : mfind M.D c 0 with
      | none => rw [hf] at hg; cases hg
      | some x =>
        rw [hf] at hg
        simp only [Option.map_some, Option.some.injEq] at hg
        obtain ⟨hi, h1, h2⟩ := mfind_some (i := x.1) (v := x.2) hf
        have hm : M.D[x.1] ∈ (M.del a).D := del_had (List.getElem_mem hi) (by rw [h1]; exact fun e => hc e.symm)
        have := get_mem (wfM_del hw a) hm
        rw [h1, h2, hg] at this
        exact this
theorem sf_del {M : MS} {n p : Nat} {g : Nat → Bool} (h : SF M n g) : SF (M.del (p : Int)) n (updG g p false) := by
  refine ⟨wfM_del h.wf _, fun a => ?_, fun e he => ?_, fun a ha => ?_⟩
  · rw [get_del h.wf]
    unfold updG
    by_cases hc : (p : Int) = a
    · subst hc; rw [if_pos rfl, if_neg (fun h9 => by simp at h9)]
    · rw [if_neg hc, h.get a]
      by_cases h0 : 0 ≤ a
      · rw [if_neg (show ¬ a.toNat = p by omega)]
      · rw [if_neg (fun h9 => h0 h9.1), if_neg (fun h9 => h0 h9.1)]
  · obtain ⟨a, h3, h4, h5⟩ := h.keys e ((del_sub M _).subset he)
    refine ⟨a, h3, h4, ?_⟩
    have hne := del_ne h.wf e he
    unfold updG; rw [if_neg (fun e9 => hne (by rw [h4, e9]))]; exact h5
  · unfold updG; split
    · rfl
    · exact h.out a ha
/-- The numbers of a set, rising. -/
def adS (n : Nat) (g : Nat → Bool) : List Nat := (List.range n).filter g
def adZ (n : Nat) (g : Nat → Bool) : List Int := (adS n g).map fun a : Nat => (a : Int)
theorem adS_mem {n a : Nat} {g : Nat → Bool} : a ∈ adS n g ↔ a < n ∧ g a = true := by unfold adS; rw [List.mem_filter, List.mem_range]
theorem adS_sorted (n : Nat) (g : Nat → Bool) : (adS n g).Pairwise (· < ·) := (List.pairwise_lt_range).filter _
theorem adS_len (n : Nat) (g : Nat → Bool) : (adS n g).length ≤ n := by unfold adS; exact Nat.le_trans (List.length_filter_le _ _) (by rw [List.length_range]; exact Nat.le_refl _)
theorem sf_has {M : MS} {n a : Nat} {g : Nat → Bool} (h : SF M n g) (ha : g a = true) : ∃ e ∈ M.D, e.k = (a : Int) := by
  have h1 := h.get (a : Int)
  rw [if_pos ⟨by omega, by simpa using ha⟩] at h1
  unfold MS.get at h1
  cases hf : mfind M.D (a : Int) 0 with
  | none => rw [hf] at h1; cases h1
  | some x => exact mfind_mem' (i := x.1) (v := x.2) hf
theorem sf_sort {M : MS} {n : Nat} {g : Nat → Bool} (h : SF M n g) : (M.D.map ME.k).mergeSort (fun x y => decide (x ≤ y)) = adZ n g := by
  have hp : (M.D.map ME.k).Perm (adZ n g) := by
    refine (List.perm_ext_iff_of_nodup h.wf.keys ?_).2 fun x => ?_
    · unfold adZ
      exact List.Pairwise.map _ (fun a b hab e => absurd (Int.ofNat_inj.1 e) (Nat.ne_of_lt hab)) (adS_sorted n g)
    · unfold adZ
      rw [List.mem_map, List.mem_map]
      constructor
      · rintro ⟨e, he, rfl⟩
        obtain ⟨a, h1, h2, h3⟩ := h.keys e he
        exact ⟨a, adS_mem.2 ⟨h1, h3⟩, h2.symm⟩
      · rintro ⟨a, ha, rfl⟩
        obtain ⟨e, he, hk⟩ := sf_has h (adS_mem.1 ha).2
        exact ⟨e, he, hk⟩
  rw [Go.mergeSort_of_perm_i hp]
  refine List.mergeSort_of_pairwise ?_
  unfold adZ
  refine List.pairwise_map.2 ((adS_sorted n g).imp fun {a b} hab => ?_)
  simp only [decide_eq_true_eq]; omega
theorem sf_len {M : MS} {n : Nat} {g : Nat → Bool} (h : SF M n g) : M.D.length = (adS n g).length := by
  have := congrArg List.length (sf_sort h)
  rw [List.length_mergeSort, List.length_map] at this
  unfold adZ at this; rw [List.length_map] at this; exact this
theorem sf_bd {M : MS} {n : Nat} {g : Nat → Bool} (h : SF M n g) (hn : n ≤ 4194304) : ∀ e ∈ M.D, -9223372036854775808 ≤ e.k ∧ e.k ≤ 9223372036854775807 := fun e he => by
  obtain ⟨a, h1, h2, _⟩ := h.keys e he; omega
/-- Where a work's parts lie, and its numbers. -/
structure WkX where
  h : Nat
  w : Nat
  t : Nat
  p : Nat
  lg : Nat
  d : Nat
  mb : Nat
  lv : Nat
  tk : Nat
  gv : Nat
  at_ : Nat
  sz : Nat
  ba : Nat
  n : Nat
/-- What the work's maps hold. -/
structure WkY where
  Ml : MS
  Mt : MS
  Mg : MS
  M : MS
  ls : Nat
/-- A work: which blocks are live, taken, given; what was put. -/
structure WkT where
  lv : Nat → Bool
  tk : Nat → Bool
  gv : Nat → Bool
  f : TF
structure WkOk (X : WkX) (Y : WkY) (T : WkT) (N : Nat) : Prop where
  l : SF Y.Ml X.n T.lv
  t : SF Y.Mt X.n T.tk
  g : SF Y.Mg X.n T.gv
  m : MF Y.M N T.f
  le : Y.ls ≤ X.n
  lo : ∀ b, b < Y.ls → T.lv b = true ∨ T.tk b = true
  dj : ∀ b, T.tk b = true → T.lv b = false
  gl : ∀ b, T.gv b = true → T.lv b = true
/-- Is a block in use? -/
def usedB (T : WkT) (b : Nat) : Bool := T.tk b || (T.lv b && !T.gv b)
def usedZ (T : WkT) (b : Int) : Bool := decide (0 ≤ b) && usedB T b.toNat
def freeB (T : WkT) (b : Nat) : Bool := !T.lv b && !T.tk b
/-- The least free block. -/
def leastB (T : WkT) (n : Nat) : Option Nat := (List.range n).find? (freeB T)
theorem used_n {X : WkX} {Y : WkY} {T : WkT} {N : Nat} (h : WkOk X Y T N) {b : Nat} (hb : usedB T b = true) : b < X.n := by
  rcases Nat.lt_or_ge b X.n with h1 | h1
  · exact h1
  · unfold usedB at hb; rw [h.t.out b h1, h.l.out b h1] at hb; simp at hb
theorem leastB_some {T : WkT} {n b : Nat} : leastB T n = some b ↔ b < n ∧ freeB T b = true ∧ ∀ c, c < b → freeB T c = false := by
  unfold leastB
  rw [List.find?_range_eq_some]
  simp only [List.mem_range]
  constructor
  · rintro ⟨h1, h2, h3⟩; exact ⟨h2, h1, fun c hc => by simpa using h3 c hc⟩
  · rintro ⟨h1, h2, h3⟩; exact ⟨h2, h1, fun c hc => by simpa using h3 c hc⟩
theorem leastB_none {T : WkT} {n : Nat} : leastB T n = none ↔ ∀ c, c < n → freeB T c = false := by
  unfold leastB
  rw [List.find?_eq_none]
  simp only [List.mem_range]
  exact ⟨fun h c hc => by simpa using h c hc, fun h c hc => by simpa using h c hc⟩
def hcs (p ba n lv : Nat) (ov : Option Nat) : List Value := [.pointer (some ⟨p, 0, none⟩), .int .i64 (ba : Nat), .int .i64 (n : Nat), .map (some lv), .pointer (ov.map fun w => (⟨w, 0, none⟩ : Addr))]
def wcs (h t tk gv ls : Nat) (over : Bool) : List Value := [.pointer (some ⟨h, 0, none⟩), .pointer (some ⟨t, 0, none⟩), .map (some tk), .map (some gv), .int .i64 (ls : Nat), .bool over]
end Go.Vl

namespace Go.Vl
open Go Go.Proofs
/-- The work in memory. -/
def WkA (X : WkX) (Y : WkY) (s : DevS) : SP := pt X.h (cl (hcs X.p X.ba X.n X.lv (some X.w)) 210) * pt X.w (cl (wcs X.h X.t X.tk X.gv Y.ls false) 66) * pt X.lv (mpo .i64 Y.Ml) * pt X.tk (mpo .i64 Y.Mt) * pt X.gv (mpo .i64 Y.Mg) * TxA X.t X.p X.lg X.d X.mb X.at_ X.sz Y.M false s
/-- Its blocks lie on the device, behind the log's first lines. -/
structure WkB (X : WkX) (s : DevS) : Prop where
  lo : 128 ≤ X.ba
  hi : X.ba + 256 * X.n ≤ s.ls.length * 64
  top : s.ls.length * 64 ≤ 4194304
theorem mapN (M : MS) (a : Int) {n : Nat} {g : Nat → Bool} (h : SF M n g) : (M.get a).isSome = (decide (0 ≤ a) && g a.toNat) := by
  rw [h.get a]
  by_cases h1 : 0 ≤ a <;> cases h2 : g a.toNat <;> simp [h1]
theorem mapV (M : MS) (a : Int) {n : Nat} {g : Nat → Bool} (h : SF M n g) : (M.get a).getD (.bool false) = .bool (decide (0 ≤ a) && g a.toNat) := by
  rw [h.get a]
  by_cases h1 : 0 ≤ a <;> cases h2 : g a.toNat <;> simp [h1]
section
variable {A R : SP} {C : SP → SP} {X : WkX} {Y : WkY} {s : DevS} (hc : Ct A (WkA X Y s) R C)
include hc
theorem wka_txa : Ct A (TxA X.t X.p X.lg X.d X.mb X.at_ X.sz Y.M false s) (R * pt X.h (cl (hcs X.p X.ba X.n X.lv (some X.w)) 210) * pt X.w (cl (wcs X.h X.t X.tk X.gv Y.ls false) 66) * pt X.lv (mpo .i64 Y.Ml) * pt X.tk (mpo .i64 Y.Mt) * pt X.gv (mpo .i64 Y.Mg)) (fun Z => R * pt X.h (cl (hcs X.p X.ba X.n X.lv (some X.w)) 210) * pt X.w (cl (wcs X.h X.t X.tk X.gv Y.ls false) 66) * pt X.lv (mpo .i64 Y.Ml) * pt X.tk (mpo .i64 Y.Mt) * pt X.gv (mpo .i64 Y.Mg) * Z) :=
  ⟨by rw [hc.1]; unfold WkA; ac_rfl, fun _ => rfl⟩
theorem wka_h : Has A X.h (cl (hcs X.p X.ba X.n X.lv (some X.w)) 210) := fun g w h => by
  rw [hc.1] at h; unfold WkA at h; exact has_pt g w (h.right.left.left.left.left.left)
theorem wka_w : Has A X.w (cl (wcs X.h X.t X.tk X.gv Y.ls false) 66) := fun g w h => by
  rw [hc.1] at h; unfold WkA at h; exact has_pt g w (h.right.left.left.left.left.right)
theorem wka_lv : Has A X.lv (mpo .i64 Y.Ml) := fun g w h => by
  rw [hc.1] at h; unfold WkA at h; exact has_pt g w (h.right.left.left.left.right)
theorem wka_tk : Has A X.tk (mpo .i64 Y.Mt) := fun g w h => by
  rw [hc.1] at h; unfold WkA at h; exact has_pt g w (h.right.left.left.right)
theorem wka_gv : Has A X.gv (mpo .i64 Y.Mg) := fun g w h => by
  rw [hc.1] at h; unfold WkA at h; exact has_pt g w (h.right.left.right)
end
attribute [local irreducible] crk crL crc Sl pt ro Dev imgS recS readS recsF rdW rdO rkT Parts rvl recordsS runsL adrF kcl xcl kys runA runsF layF ovF TxA adZ
theorem there13_c {A : SP} {h w t tk gv ls : Nat} {over : Bool} (hw : Has A w (cl (wcs h t tk gv ls over) 66) := by (repeat (first | assumption | with_reducible exact has_here | with_reducible exact has_pt | apply has_left))) :
    Fn Tryz.prog 75 #[.pointer (some ⟨w, 0, none⟩)] (A) (fun r B => r = .bool true ∧ A = B) := by
  refine fn_enterW (args := [.pointer (some ⟨w, 0, none⟩)]) Tryz.func75 rfl Tryz.ntmps75 (by simp) ?_; refine sr ?_; refine tla ?_; refine nq ?_; refine sr ?_; refine tlm ?_; refine tv (o_nep Tryz.underlying28 rfl rfl) ?_; refine tlm ?_; refine tl_bool (d := 5) rfl (fun h => ?_) (fun h => ?_)
  · try simp only [lv1, lv2, lv3, lv4, lv5, lv6, Bool.not_true, Bool.not_false] at h
    refine tlm ?_; refine tv (o_nilCheck rfl) ?_; refine tv (o_fieldAddr (o := 0) Tryz.underlying66 rfl rfl sz27 rfl) ?_; refine tv (o_load p27 rfl hw rfl) ?_; refine tv (o_nep Tryz.underlying27 rfl rfl) ?_; refine tv (o_pick_t rfl (by conv => lhs; whnf)) ?_; refine tla ?_; refine nq ?_; refine tc_ret ?_; exact ⟨.bool true, _, res1 rfl rfl, Dr.sat (by repeat (first | with_reducible exact dr_refl | apply dr_keep | apply dr_drop)), rfl, rfl⟩
  · exfalso; simp at h
theorem thereH_c {A : SP} {h p ba n lv : Nat} {ov : Option Nat} (hh : Has A h (cl (hcs p ba n lv ov) 210) := by (repeat (first | assumption | with_reducible exact has_here | with_reducible exact has_pt | apply has_left))) :
    Fn Tryz.prog 152 #[.pointer (some ⟨h, 0, none⟩)] (A) (fun r B => r = .bool true ∧ A = B) := by
  refine fn_enterW (args := [.pointer (some ⟨h, 0, none⟩)]) Tryz.func152 rfl Tryz.ntmps152 (by simp) ?_; refine sr ?_; refine tla ?_; refine nq ?_; refine sr ?_; refine tlm ?_; refine tv (o_nep Tryz.underlying27 rfl rfl) ?_; refine tlm ?_; refine tl_bool (d := 5) rfl (fun h => ?_) (fun h => ?_)
  · try simp only [lv1, lv2, lv3, lv4, lv5, lv6, Bool.not_true, Bool.not_false] at h
    refine tlm ?_; refine tv (o_nilCheck rfl) ?_; refine tv (o_fieldAddr (o := 0) Tryz.underlying210 rfl rfl sz69 rfl) ?_; refine tv (o_load p69 rfl hh rfl) ?_; refine tv (o_nep Tryz.underlying69 rfl rfl) ?_; refine tv (o_pick_t rfl (by conv => lhs; whnf)) ?_; refine tla ?_; refine nq ?_; refine tc_ret ?_; exact ⟨.bool true, _, res1 rfl rfl, Dr.sat (by repeat (first | with_reducible exact dr_refl | apply dr_keep | apply dr_drop)), rfl, rfl⟩
  · exfalso; simp at h
theorem place13_c {A : SP} {h p ba n lv b : Nat} {ov : Option Nat} (hh : Has A h (cl (hcs p ba n lv ov) 210) := by (repeat (first | assumption | with_reducible exact has_here | with_reducible exact has_pt | apply has_left))) (hb : ba ≤ 4194304 := by omega) (hb2 : b ≤ 4194304 := by omega) :
    Fn Tryz.prog 87 #[.pointer (some ⟨h, 0, none⟩), .int .i64 (b : Nat)] (A) (fun r B => r = .int .i64 ((ba + 256 * b : Nat) : Int) ∧ A = B) := by
  refine fn_enterW (args := [.pointer (some ⟨h, 0, none⟩), .int .i64 (b : Nat)]) Tryz.func87 rfl Tryz.ntmps87 (by simp) ?_; refine sr ?_; refine tla ?_; refine nq ?_; refine sr ?_; refine tlm ?_; refine tv (o_nilCheck rfl) ?_; refine tv (o_fieldAddr (o := 1) Tryz.underlying210 rfl rfl sz3 rfl) ?_; refine tv (o_load p3 rfl hh rfl) ?_; refine tlm ?_; refine tv (by first | exact o_mulI rfl rfl (by omega) | exact o_mul rfl rfl) ?_; refine tv (by first | exact o_addI rfl rfl (by omega) | exact o_add rfl rfl) ?_; refine tla ?_; refine nq ?_; refine tc_ret ?_; exact ⟨.int .i64 ((ba + 256 * b : Nat) : Int), _, res1 rfl (by first | rfl | exact congrArg (Value.int .i64) (by omega)), Dr.sat (by repeat (first | with_reducible exact dr_refl | apply dr_keep | apply dr_drop)), rfl, rfl⟩
theorem seen0_c {A : SP} {v : Value} {e : Int} (he : e ≠ 5 := by decide) :
    Fn Tryz.prog 88 #[v, .int .i64 e] (A) (fun r B => r = .int .i64 e ∧ A = B) := by
  refine fn_enterW (args := [v, .int .i64 e]) Tryz.func88 rfl Tryz.ntmps88 (by simp) ?_; refine sr ?_; refine tla ?_; refine nq ?_; refine tc_seq ?_; refine sr ?_; refine tlm ?_; refine tv (o_eqi rfl rfl) ?_; refine nq ?_; refine tc_cond rfl (fun h => ?_) (fun h => ?_)
  · exfalso; exact he (by first | exact of_decide_eq_true h | simpa using h)
  · try simp only [lv1, lv2, lv3, lv4, lv5, lv6, Bool.not_true, Bool.not_false] at h
    refine tc_skip ?_; refine q_then_n ?_; refine sr ?_; refine tlm ?_; refine tla ?_; refine nq ?_; refine tc_ret ?_; exact ⟨.int .i64 e, _, res1 rfl rfl, Dr.sat (by repeat (first | with_reducible exact dr_refl | apply dr_keep | apply dr_drop)), rfl, rfl⟩
theorem begin13_c {A R : SP} {C : SP → SP} {X : WkX} {Y : WkY} {T : WkT} {s : DevS} (hc : Ct A (WkA X Y s) R C := by repeat (first | with_reducible exact ct_here | apply ct_left)) (hok : WkOk X Y T (s.ls.length * 64)) (hb : WkB X s) (ho : s.off = false := by assumption) :
    Fn Tryz.prog 144 #[.pointer (some ⟨X.w, 0, none⟩)] (A) (fun r B => r = .int .i64 0 ∧ A = B) := by
  refine fn_enterW (args := [.pointer (some ⟨X.w, 0, none⟩)]) Tryz.func144 rfl Tryz.ntmps144 (by simp) ?_
  have hst : ∃ R2 C2, Ct A (TxA X.t X.p X.lg X.d X.mb X.at_ X.sz Y.M false s) R2 C2 := ⟨_, _, wka_txa hc⟩
  obtain ⟨R2, C2, hct⟩ := hst
  have hw9 := wka_w hc
  refine sr ?_; refine tla ?_; refine nq ?_; refine tc_seq ?_; refine sr ?_; refine tlm ?_; refine tl_c rfl (o_call bd75 rfl (there13_c (hw := hw9))) ?_; rintro _ _ ⟨rfl, rfl⟩; refine tv (o_not rfl) ?_; refine nq ?_; refine tc_cond rfl (fun h => ?_) (fun h => ?_)
  · exfalso; simp at h
  · try simp only [lv1, lv2, lv3, lv4, lv5, lv6, Bool.not_true, Bool.not_false] at h
    refine tc_skip ?_; refine q_then_n ?_; refine tc_seq ?_; refine sr ?_; refine tlm ?_; refine tv (o_nilCheck rfl) ?_; refine tv (o_fieldAddr (o := 5) Tryz.underlying66 rfl rfl sz4 rfl) ?_; refine tv (o_load p4 rfl hw9 rfl) ?_; refine nq ?_; refine tc_cond rfl (fun h => ?_) (fun h => ?_)
    · exfalso; simp at h
    · try simp only [lv1, lv2, lv3, lv4, lv5, lv6, Bool.not_true, Bool.not_false] at h
      refine tc_skip ?_; refine q_then_n ?_; refine sr ?_; refine tlm ?_; refine tv (o_nilCheck rfl) ?_; refine tv (o_fieldAddr (o := 1) Tryz.underlying66 rfl rfl sz62 rfl) ?_; refine tv (o_load p62 rfl hw9 rfl) ?_; refine tl_c rfl (o_call bd43 rfl (LoadT_c (hc := hct) (n := s.ls.length * 64) (f := T.f) (q := 0) (m := 0) (hM := hok.m) (ho := ho) (hqm := Nat.zero_le _))) ?_; rintro _ _ ⟨a17, c17, rfl, hc17, rfl⟩; refine tlm ?_; refine tv (o_extract rfl rfl) ?_; refine tv (o_extract rfl rfl) ?_; refine tla ?_; refine tla ?_; refine nq ?_; refine sr ?_; refine tlm ?_; refine tlm ?_; refine tl_c rfl (o_call bd88 rfl (seen0_c)) ?_; rintro _ _ ⟨rfl, rfl⟩; refine tla ?_; refine nq ?_; refine tc_ret ?_; exact ⟨.int .i64 0, _, res1 rfl rfl, Dr.sat (by repeat (first | with_reducible exact dr_refl | apply dr_keep | apply dr_drop)), rfl, rfl⟩
end Go.Vl

namespace Go.Vl
open Go Go.Proofs
theorem adZ_len (n : Nat) (g : Nat → Bool) : (adZ n g).length = (adS n g).length := by unfold adZ; rw [List.length_map]
/-- What Take makes of a work; Give; Write. -/
def WkT.take (T : WkT) (b : Nat) : WkT := { T with tk := updG T.tk b true }
def WkT.give (T : WkT) (b : Nat) : WkT := if T.tk b then { T with tk := updG T.tk b false } else { T with gv := updG T.gv b true }
def WkT.write (T : WkT) (ba b : Nat) (xs : List Nat) : WkT := { T with f := layF (ba + 256 * b) xs (T.tk b) T.f }
theorem ok_take {X : WkX} {Y : WkY} {T : WkT} {N b : Nat} (h : WkOk X Y T N) (hb : b < X.n) (hf : freeB T b = true) (hlo : ∀ c, c < b → freeB T c = false) : WkOk X { Y with Mt := Y.Mt.put (b : Int) (.bool true), ls := b + 1 } (T.take b) N := by
  unfold freeB at hf hlo
  simp only [Bool.and_eq_true, Bool.not_eq_true'] at hf
  refine ⟨h.l, sf_put h.t hb, h.g, h.m, by show b + 1 ≤ X.n; omega, fun c hc => ?_, fun c hc => ?_, h.gl⟩
  · show T.lv c = true ∨ updG T.tk b true c = true
    unfold updG
    by_cases hcb : c = b
    · rw [if_pos hcb]; exact .inr rfl
    · rw [if_neg hcb]
      have hc' : c < b + 1 := hc
      have := hlo c (by omega)
      cases h1 : T.lv c <;> cases h2 : T.tk c <;> simp [h1, h2] at this ⊢
  · show T.lv c = false
    have hc' : updG T.tk b true c = true := hc
    unfold updG at hc'
    by_cases hcb : c = b
    · rw [hcb]; exact hf.1
    · rw [if_neg hcb] at hc'; exact h.dj c hc'
theorem ok_give {X : WkX} {Y : WkY} {T : WkT} {N b : Nat} (h : WkOk X Y T N) (ht : T.tk b = true) : WkOk X { Y with Mt := Y.Mt.del (b : Int), ls := min Y.ls b } (T.give b) N := by
  unfold WkT.give; rw [if_pos ht]
  refine ⟨h.l, sf_del h.t, h.g, h.m, by have := h.le; show min Y.ls b ≤ X.n; omega, fun c hc => ?_, fun c hc => ?_, h.gl⟩
  · show T.lv c = true ∨ updG T.tk b false c = true
    have hc' : c < min Y.ls b := hc
    unfold updG; rw [if_neg (by omega)]
    exact h.lo c (by omega)
  · have hc' : updG T.tk b false c = true := hc
    unfold updG at hc'
    by_cases hcb : c = b
    · rw [if_pos hcb] at hc'; cases hc'
    · rw [if_neg hcb] at hc'; exact h.dj c hc'
theorem ok_give2 {X : WkX} {Y : WkY} {T : WkT} {N b : Nat} (h : WkOk X Y T N) (ht : ¬ T.tk b = true) (hu : usedB T b = true) : WkOk X { Y with Mg := Y.Mg.put (b : Int) (.bool true) } (T.give b) N := by
  have hn := used_n h hu
  unfold WkT.give; rw [if_neg ht]
  refine ⟨h.l, h.t, sf_put h.g hn, h.m, h.le, h.lo, h.dj, fun c hc => ?_⟩
  have hc' : updG T.gv b true c = true := hc
  unfold updG at hc'
  by_cases hcb : c = b
  · unfold usedB at hu; rw [hcb]
    cases h1 : T.tk b
    · rw [h1] at hu; simp at hu; exact hu.1
    · exact absurd h1 ht
  · rw [if_neg hcb] at hc'; exact h.gl c hc'
theorem ok_write {X : WkX} {Y : WkY} {T : WkT} {N b : Nat} {M : MS} {xs : List Nat} (h : WkOk X Y T N) (hM : MF M N (layF (X.ba + 256 * b) xs (T.tk b) T.f)) : WkOk X { Y with M := M } (T.write X.ba b xs) N :=
  ⟨h.l, h.t, h.g, hM, h.le, h.lo, h.dj, h.gl⟩
theorem o_min2 {P : Program} {n : Nat} {ρ : Env} {A : SP} {dst : Option Tmp} {ty t t' : TypeId} {pos : String} {after : Array Edge} {gd : Option (Nat × Bool)} {x y : Operand} {a b : Nat} (hu : P.underlying ty = some (.int .i64)) (hx : ev n ρ x = .int .i64 (a : Nat)) (hy : ev n ρ y = .int .i64 (b : Nat)) :
    OpV P n ρ A ⟨dst, .call { callee := .builtin .min, args := #[x, y], argTypes := #[t, t'] }, ty, pos, after, gd⟩ (.int .i64 ((min a b : Nat) : Int)) := fun g w hs => by
  simp only [execOp, resolve, List.map_toArray, List.map_cons, List.map_nil, hx, hy]
  rw [run_bind (w' := w) (a := ⟨.builtin .min #[t, t'] ty _, #[.int .i64 (a : Nat), .int .i64 (b : Nat)]⟩) (by rfl)]
  simp only [invoke, builtin]
  rw [run_bind (w' := w) (a := .int .i64 ((min a b : Nat) : Int))]
  · rfl
  have e : (if (b : Int) < (a : Int) then (b : Int) else (a : Int)) = ((min a b : Nat) : Int) := by split <;> omega
  simp [Builtin.min_, Builtin.min2, List.foldlM, Sem.run_bind, ← e]
theorem usedZ_nat {T : WkT} {b : Nat} : usedZ T (b : Int) = usedB T b := by unfold usedZ; simp
attribute [local irreducible] crk crL crc Sl pt ro Dev imgS recS readS recsF rdW rdO rkT Parts rvl recordsS runsL adrF kcl xcl kys runA runsF layF ovF TxA adZ WkA
theorem use13_c {A R : SP} {C : SP → SP} {X : WkX} {Y : WkY} {T : WkT} {s : DevS} (hc : Ct A (WkA X Y s) R C := by repeat (first | with_reducible exact ct_here | apply ct_left)) (hok : WkOk X Y T (s.ls.length * 64)) (hb : WkB X s) (ho : s.off = false := by assumption) {b : Int} :
    Fn Tryz.prog 86 #[.pointer (some ⟨X.w, 0, none⟩), .int .i64 b] (A) (fun r B => r = .int .i64 (if usedZ T b = true then 0 else 130) ∧ A = B) := by
  refine fn_enterW (args := [.pointer (some ⟨X.w, 0, none⟩), .int .i64 b]) Tryz.func86 rfl Tryz.ntmps86 (by simp) ?_
  have hw9 := wka_w hc
  have hh9 := wka_h hc
  have hl9 := wka_lv hc
  have ht9 := wka_tk hc
  have hg9 := wka_gv hc
  have hB := hb
  obtain ⟨hb1, hb2, hb3⟩ := hB
  refine sr ?_; refine tla ?_; refine nq ?_; refine tc_seq ?_; refine sr ?_; refine tlm ?_; refine tl_c rfl (o_call bd144 rfl (begin13_c (hc := hc) (hok := hok) (hb := hb))) ?_; rintro _ _ ⟨rfl, rfl⟩; refine tla ?_; refine nq ?_; refine sr ?_; refine tlm ?_; refine tv (o_nei rfl rfl) ?_; refine nq ?_; refine tc_cond rfl (fun h => ?_) (fun h => ?_)
  · exfalso; simp at h
  · try simp only [lv1, lv2, lv3, lv4, lv5, lv6, Bool.not_true, Bool.not_false] at h
    refine tc_skip ?_; refine q_then_n ?_; refine sr ?_; refine tlm ?_; refine tv (o_nilCheck rfl) ?_; refine tv (o_fieldAddr (o := 2) Tryz.underlying66 rfl rfl sz64 rfl) ?_; refine tv (o_load p64 rfl hw9 rfl) ?_; refine tlm ?_; refine tv (o_lookupOk (ik := .i64) (M := Y.Mt) Tryz.underlying64 Tryz.underlying3 z4 rfl rfl ht9) ?_; refine tl_env (d := 23) (v := .tuple #[.bool (decide (0 ≤ b) && T.tk b.toNat), .bool (decide (0 ≤ b) && T.tk b.toNat)]) (by show Value.tuple #[(Y.Mt.get b).getD _, .bool (Y.Mt.get b).isSome] = _; rw [mapV Y.Mt b hok.t, mapN Y.Mt b hok.t]) ?_; refine tlm ?_; refine tv (o_extract rfl rfl) ?_; refine tv (o_extract rfl rfl) ?_; refine tla ?_; refine tla ?_; refine nq ?_; refine sr ?_; refine tlm ?_; refine tv (o_nilCheck rfl) ?_; refine tv (o_fieldAddr (o := 3) Tryz.underlying66 rfl rfl sz64 rfl) ?_; refine tv (o_load p64 rfl hw9 rfl) ?_; refine tlm ?_; refine tv (o_lookupOk (ik := .i64) (M := Y.Mg) Tryz.underlying64 Tryz.underlying3 z4 rfl rfl hg9) ?_; refine tl_env (d := 32) (v := .tuple #[.bool (decide (0 ≤ b) && T.gv b.toNat), .bool (decide (0 ≤ b) && T.gv b.toNat)]) (by show Value.tuple #[(Y.Mg.get b).getD _, .bool (Y.Mg.get b).isSome] = _; rw [mapV Y.Mg b hok.g, mapN Y.Mg b hok.g]) ?_; refine tlm ?_; refine tv (o_extract rfl rfl) ?_; refine tv (o_extract rfl rfl) ?_
    refine tla ?_; refine tla ?_; refine nq ?_; refine tc_seq ?_; refine sr ?_; refine tlm ?_; refine tv (o_nilCheck rfl) ?_; refine tv (o_fieldAddr (o := 0) Tryz.underlying66 rfl rfl sz27 rfl) ?_; refine tv (o_load p27 rfl hw9 rfl) ?_; refine tv (o_nilCheck rfl) ?_; refine tv (o_fieldAddr (o := 3) Tryz.underlying210 rfl rfl sz64 rfl) ?_; refine tv (o_load p64 rfl hh9 rfl) ?_; refine tlm ?_; refine tv (o_lookupOk (ik := .i64) (M := Y.Ml) Tryz.underlying64 Tryz.underlying3 z4 rfl rfl hl9) ?_; refine tl_env (d := 44) (v := .tuple #[.bool (decide (0 ≤ b) && T.lv b.toNat), .bool (decide (0 ≤ b) && T.lv b.toNat)]) (by show Value.tuple #[(Y.Ml.get b).getD _, .bool (Y.Ml.get b).isSome] = _; rw [mapV Y.Ml b hok.l, mapN Y.Ml b hok.l]) ?_; refine tlm ?_; refine tv (o_extract rfl rfl) ?_; refine tv (o_extract rfl rfl) ?_; refine tla ?_; refine tla ?_; refine nq ?_; refine tc_seq ?_; refine tc_cut (fun ρ BB => ρ 54 = .bool (usedZ T b) ∧ Dr BB (A)) ?_ ?_
    · skip
      refine tc_reg ?_; refine tlm ?_; refine tlm ?_; refine tl_bool (d := 48) rfl (fun h => ?_) (fun h => ?_)
      · try simp only [lv1, lv2, lv3, lv4, lv5, lv6, Bool.not_true, Bool.not_false] at h
        refine tk ?_; refine tk ?_; refine tk ?_; refine tk ?_; refine tk ?_; refine tv (o_pick_t rfl (by conv => lhs; whnf)) ?_; refine tl_nil ?_; exact ⟨by unfold usedZ usedB; cases h0 : decide (0 ≤ b) <;> cases h1 : T.tk b.toNat <;> cases h2 : T.lv b.toNat <;> cases h3 : T.gv b.toNat <;> simp [h0, h1, h2, h3] at * <;> rfl, (by repeat (first | with_reducible exact dr_refl | apply dr_keep | apply dr_drop))⟩
      · try simp only [lv1, lv2, lv3, lv4, lv5, lv6, Bool.not_true, Bool.not_false] at h
        refine tlm ?_; refine tlm ?_; refine tl_bool (d := 50) rfl (fun h => ?_) (fun h => ?_)
        · try simp only [lv1, lv2, lv3, lv4, lv5, lv6, Bool.not_true, Bool.not_false] at h
          refine tlm ?_; refine tv (o_not rfl) ?_; refine tv (o_pick_t rfl (by conv => lhs; whnf)) ?_; refine tv (o_pick_f rfl (by conv => lhs; whnf)) ?_; refine tl_nil ?_; exact ⟨by unfold usedZ usedB; cases h0 : decide (0 ≤ b) <;> cases h1 : T.tk b.toNat <;> cases h2 : T.lv b.toNat <;> cases h3 : T.gv b.toNat <;> simp [h0, h1, h2, h3] at * <;> rfl, (by repeat (first | with_reducible exact dr_refl | apply dr_keep | apply dr_drop))⟩
        · try simp only [lv1, lv2, lv3, lv4, lv5, lv6, Bool.not_true, Bool.not_false] at h
          refine tk ?_; refine tk ?_; refine tv (o_pick_f rfl (by conv => lhs; whnf)) ?_; refine tv (o_pick_f rfl (by conv => lhs; whnf)) ?_; refine tl_nil ?_; exact ⟨by unfold usedZ usedB; cases h0 : decide (0 ≤ b) <;> cases h1 : T.tk b.toNat <;> cases h2 : T.lv b.toNat <;> cases h3 : T.gv b.toNat <;> simp [h0, h1, h2, h3] at * <;> rfl, (by repeat (first | with_reducible exact dr_refl | apply dr_keep | apply dr_drop))⟩
    · intro ρ B hI
      obtain ⟨hE54, hBA⟩ := hI
      refine q_then_n ?_; refine tc_pre hBA.sat ?_
      clear hBA
      refine tc_env (d := 54) hE54 ?_
      clear hE54
      refine tc_cond rfl (fun h => ?_) (fun h => ?_)
      · try simp only [lv1, lv2, lv3, lv4, lv5, lv6, Bool.not_true, Bool.not_false] at h
        refine sr ?_; refine tla ?_; refine nq ?_; refine tc_ret ?_; refine q_then_r ?_
        rw [if_pos (by first | exact h | simpa using h)]
        exact ⟨.int .i64 0, _, res1 rfl rfl, Dr.sat (by repeat (first | with_reducible exact dr_refl | apply dr_keep | apply dr_drop)), rfl, rfl⟩
      · try simp only [lv1, lv2, lv3, lv4, lv5, lv6, Bool.not_true, Bool.not_false] at h
        refine tc_skip ?_; refine q_then_n ?_; refine sr ?_; refine tla ?_; refine nq ?_; refine tc_ret ?_
        rw [if_neg (by first | exact Bool.eq_false_iff.1 h | (rw [h]; decide))]
        exact ⟨.int .i64 130, _, res1 rfl rfl, Dr.sat (by repeat (first | with_reducible exact dr_refl | apply dr_keep | apply dr_drop)), rfl, rfl⟩
set_option maxRecDepth 20000 in
set_option maxHeartbeats 1000000 in
theorem Take13_ok {A R : SP} {C : SP → SP} {X : WkX} {Y : WkY} {T : WkT} {s : DevS} (hc : Ct A (WkA X Y s) R C := by repeat (first | with_reducible exact ct_here | apply ct_left)) (hok : WkOk X Y T (s.ls.length * 64)) (hb : WkB X s) (ho : s.off = false := by assumption) {b : Nat} (hf : leastB T X.n = some b) :
    Fn Tryz.prog 70 #[.pointer (some ⟨X.w, 0, none⟩)] (A) (fun r B => ∃ Y2, r = .tuple #[.int .i64 (b : Nat), .int .i64 0] ∧ WkOk X Y2 (T.take b) (s.ls.length * 64) ∧ B = C (WkA X Y2 s)) := by
  refine fn_enterW (args := [.pointer (some ⟨X.w, 0, none⟩)]) Tryz.func70 rfl Tryz.ntmps70 (by simp) ?_
  obtain ⟨hbn, hbf, hbl⟩ := leastB_some.1 hf
  have hlsb : Y.ls ≤ b := by
    rcases Nat.lt_or_ge b Y.ls with h9 | h9
    · have := hok.lo b h9; unfold freeB at hbf; rcases this with h1 | h1 <;> simp [h1] at hbf
    · exact h9
  obtain ⟨hb1, hb2, hb3⟩ := id hb
  have hle := hok.le
  obtain ⟨rfl, hC⟩ := hc
  refine tc_eq (show _ = R * pt X.h (cl (hcs X.p X.ba X.n X.lv (some X.w)) 210) * pt X.w (cl (wcs X.h X.t X.tk X.gv Y.ls false) 66) * pt X.lv (mpo .i64 Y.Ml) * pt X.tk (mpo .i64 Y.Mt) * pt X.gv (mpo .i64 Y.Mg) * TxA X.t X.p X.lg X.d X.mb X.at_ X.sz Y.M false s by unfold WkA; ac_rfl) ?_; refine sr ?_; refine tla ?_; refine tla ?_; refine nq ?_; refine tc_seq ?_; refine sr ?_; refine tlm ?_; refine tl_c rfl (o_call bd144 rfl (begin13_c (s := s) (X := X) (Y := Y) (T := T) (R := R) (C := fun Z => R * Z) (hc := ⟨by unfold WkA; ac_rfl, fun _ => rfl⟩) (hok := hok) (hb := hb))) ?_; rintro _ _ ⟨rfl, rfl⟩; refine tla ?_; refine nq ?_; refine sr ?_; refine tlm ?_; refine tv (o_nei rfl rfl) ?_; refine nq ?_; refine tc_cond rfl (fun h => ?_) (fun h => ?_)
  · exfalso; simp at h
  · try simp only [lv1, lv2, lv3, lv4, lv5, lv6, Bool.not_true, Bool.not_false] at h
    refine tc_skip ?_; refine q_then_n ?_; refine tc_seq ?_; refine sr ?_; refine tlm ?_; refine tv (o_nilCheck rfl) ?_; refine tv (o_fieldAddr (o := 4) Tryz.underlying66 rfl rfl sz3 rfl) ?_; refine tv (o_load p3 rfl (by repeat (first | with_reducible exact has_here | with_reducible exact has_pt | apply has_left)) rfl) ?_; refine tla ?_; refine nq ?_; refine tc_block ?_; refine tc_loop (fun kk ρ BB => ∃ (c : Nat), (c ≤ b) ∧ kk = X.n - c ∧ ρ 5 = .int .i64 (c : Nat) ∧ ρ 0 = .pointer (some ⟨X.w, 0, none⟩) ∧ Dr BB (R * pt X.h (cl (hcs X.p X.ba X.n X.lv (some X.w)) 210) * pt X.w (cl (wcs X.h X.t X.tk X.gv Y.ls false) 66) * pt X.lv (mpo .i64 Y.Ml) * pt X.tk (mpo .i64 Y.Mt) * pt X.gv (mpo .i64 Y.Mg) * TxA X.t X.p X.lg X.d X.mb X.at_ X.sz Y.M false s)) (m := X.n - (Y.ls)) ?_ ?_
    · exact ⟨Y.ls, hlsb, rfl, rfl, rfl, (by repeat (first | with_reducible exact dr_refl | apply dr_keep | apply dr_drop))⟩
    · intro k ρ B hI
      obtain ⟨c, hp0, hkk1, hE5, hE0, hBA⟩ := hI
      refine tc_pre hBA.sat ?_
      clear hBA
      refine tc_env (d := 5) hE5 ?_; refine tc_env (d := 0) hE0 ?_
      clear hE5 hE0
      refine tc_seq ?_; refine sr ?_; refine tlm ?_; refine tlm ?_; refine tv (o_nilCheck rfl) ?_; refine tv (o_fieldAddr (o := 0) Tryz.underlying66 rfl rfl sz27 rfl) ?_; refine tv (o_load p27 rfl (by repeat (first | with_reducible exact has_here | with_reducible exact has_pt | apply has_left)) rfl) ?_; refine tv (o_nilCheck rfl) ?_; refine tv (o_fieldAddr (o := 2) Tryz.underlying210 rfl rfl sz3 rfl) ?_; refine tv (o_load p3 rfl (by repeat (first | with_reducible exact has_here | with_reducible exact has_pt | apply has_left)) rfl) ?_; refine tv (o_lss rfl rfl) ?_; refine nq ?_; refine tc_cond rfl (fun h => ?_) (fun h => ?_)
      · have hcn : c < X.n := by first | omega | (simp at h; omega)
        refine tc_skip ?_; refine q_then_n ?_; refine tc_seq ?_; refine tc_block ?_; refine sr ?_; refine tlm ?_; refine tv (o_nilCheck rfl) ?_; refine tv (o_fieldAddr (o := 0) Tryz.underlying66 rfl rfl sz27 rfl) ?_; refine tv (o_load p27 rfl (by repeat (first | with_reducible exact has_here | with_reducible exact has_pt | apply has_left)) rfl) ?_; refine tv (o_nilCheck rfl) ?_; refine tv (o_fieldAddr (o := 3) Tryz.underlying210 rfl rfl sz64 rfl) ?_; refine tv (o_load p64 rfl (by repeat (first | with_reducible exact has_here | with_reducible exact has_pt | apply has_left)) rfl) ?_; refine tlm ?_; refine tv (o_lookupOk (ik := .i64) (M := Y.Ml) Tryz.underlying64 Tryz.underlying3 z4 rfl rfl (by repeat (first | with_reducible exact has_here | with_reducible exact has_pt | apply has_left))) ?_; refine tl_env (d := 37) (v := .tuple #[.bool (T.lv c), .bool (T.lv c)]) (by show Value.tuple #[(Y.Ml.get (c : Int)).getD _, .bool (Y.Ml.get (c : Int)).isSome] = _; rw [mapV Y.Ml (c : Int) hok.l, mapN Y.Ml (c : Int) hok.l]; simp) ?_; refine tlm ?_; refine tv (o_extract rfl rfl) ?_; refine tv (o_extract rfl rfl) ?_; refine tla ?_; refine tla ?_; refine nq ?_; refine tc_seq ?_; refine tc_cut (fun ρ BB => ρ 50 = .bool (freeB T c) ∧ ρ 0 = .pointer (some ⟨X.w, 0, none⟩) ∧ ρ 5 = .int .i64 (c : Nat) ∧ Dr BB (R * pt X.h (cl (hcs X.p X.ba X.n X.lv (some X.w)) 210) * pt X.w (cl (wcs X.h X.t X.tk X.gv Y.ls false) 66) * pt X.lv (mpo .i64 Y.Ml) * pt X.tk (mpo .i64 Y.Mt) * pt X.gv (mpo .i64 Y.Mg) * TxA X.t X.p X.lg X.d X.mb X.at_ X.sz Y.M false s)) ?_ ?_
        · skip
          refine tc_reg ?_; refine tlm ?_; refine tv (o_not rfl) ?_; refine tlm ?_; refine tl_bool (d := 42) rfl (fun h => ?_) (fun h => ?_)
          · try simp only [lv1, lv2, lv3, lv4, lv5, lv6, Bool.not_true, Bool.not_false] at h
            refine tlm ?_; refine tv (o_nilCheck rfl) ?_; refine tv (o_fieldAddr (o := 2) Tryz.underlying66 rfl rfl sz64 rfl) ?_; refine tv (o_load p64 rfl (by repeat (first | with_reducible exact has_here | with_reducible exact has_pt | apply has_left)) rfl) ?_; refine tlm ?_; refine tv (o_lookup (ik := .i64) (M := Y.Mt) Tryz.underlying64 Tryz.underlying3 z4 rfl rfl (by repeat (first | with_reducible exact has_here | with_reducible exact has_pt | apply has_left))) ?_; refine tl_env (d := 48) (v := .bool (T.tk c)) (by show (Y.Mt.get (c : Int)).getD _ = _; rw [mapV Y.Mt (c : Int) hok.t]; simp) ?_; refine tv (o_not rfl) ?_; refine tv (o_pick_t rfl (by conv => lhs; whnf)) ?_; refine tl_nil ?_; exact ⟨by unfold freeB; cases h1 : T.lv c <;> cases h2 : T.tk c <;> simp [h1, h2] at * <;> rfl, rfl, rfl, (by repeat (first | with_reducible exact dr_refl | apply dr_keep | apply dr_drop))⟩
          · try simp only [lv1, lv2, lv3, lv4, lv5, lv6, Bool.not_true, Bool.not_false] at h
            refine tk ?_; refine tk ?_; refine tk ?_; refine tk ?_; refine tk ?_; refine tk ?_; refine tk ?_; refine tv (o_pick_f rfl (by conv => lhs; whnf)) ?_; refine tl_nil ?_; exact ⟨by unfold freeB; cases h1 : T.lv c <;> cases h2 : T.tk c <;> simp [h1, h2] at * <;> rfl, rfl, rfl, (by repeat (first | with_reducible exact dr_refl | apply dr_keep | apply dr_drop))⟩
        · intro ρ B hI
          obtain ⟨hE50, hE0, hE5, hBA⟩ := hI
          refine q_then_n ?_; refine tc_pre hBA.sat ?_
          clear hBA
          refine tc_env (d := 50) hE50 ?_; refine tc_env (d := 0) hE0 ?_; refine tc_env (d := 5) hE5 ?_
          clear hE50 hE0 hE5
          refine tc_cond rfl (fun h => ?_) (fun h => ?_)
          · obtain rfl : c = b := by rcases Nat.lt_or_ge c b with h9 | h9 <;> first | omega | (exfalso; have h8 := hbl c h9; rw [h8] at h; simp at h)
            refine sr ?_; refine tlm ?_; refine tv (o_nilCheck rfl) ?_; refine tv (o_fieldAddr (o := 2) Tryz.underlying66 rfl rfl sz64 rfl) ?_; refine tv (o_load p64 rfl (by repeat (first | with_reducible exact has_here | with_reducible exact has_pt | apply has_left)) rfl) ?_; refine tlm ?_; refine tl_u rfl (o_mapUpdate (ik := .i64) (M := Y.Mt) (v := .bool true) Tryz.underlying64 Tryz.underlying3 rfl (by repeat (first | with_reducible exact upd_here | with_reducible exact upd_pt | apply upd_left)) rfl rfl rfl) ?_; refine nq ?_; refine sr ?_; refine tlm ?_; refine tlm ?_; refine tv (by first | exact o_addI rfl rfl (by omega) | exact o_add rfl rfl) ?_; refine tv (o_nilCheck rfl) ?_; refine tv (o_fieldAddr (o := 4) Tryz.underlying66 rfl rfl sz3 rfl) ?_; refine tl_u rfl (o_stU (l' := wcs X.h X.t X.tk X.gv (c + 1) false) rfl (by repeat (first | with_reducible exact upd_here | with_reducible exact upd_pt | apply upd_left)) sz3 rfl rfl (by show 4 < 6; decide) rfl) ?_; refine nq ?_; refine sr ?_; refine tlm ?_; refine tla ?_; refine tla ?_; refine nq ?_; refine tc_ret ?_
            refine q_block_r (q_then_r (q_then_r (q_block_r (q_then_r ?_)))); exact ⟨_, C (WkA X { Y with Mt := Y.Mt.put (c : Int) (.bool true), ls := c + 1 } s), res2 rfl rfl rfl, (fun g w h => by rw [hC]; exact (Dr.sat (A' := R * pt X.h (cl (hcs X.p X.ba X.n X.lv (some X.w)) 210) * pt X.w (cl (wcs X.h X.t X.tk X.gv (c + 1) false) 66) * pt X.lv (mpo .i64 Y.Ml) * pt X.tk (mpo .i64 (Y.Mt.put (c : Int) (.bool true))) * pt X.gv (mpo .i64 Y.Mg) * TxA X.t X.p X.lg X.d X.mb X.at_ X.sz Y.M false s) (by repeat (first | with_reducible exact dr_refl | apply dr_keep | apply dr_drop)) g w h).perm (by unfold WkA; ac_rfl)), _, rfl, ok_take hok hbn hbf hbl, rfl⟩
          · try simp only [lv1, lv2, lv3, lv4, lv5, lv6, Bool.not_true, Bool.not_false] at h
            refine tc_skip ?_; refine q_block_n (q_then_n ?_); refine tc_reg ?_; refine tlm ?_; refine tv (by first | exact o_addI rfl rfl (by omega) | exact o_add rfl rfl) ?_; refine tla ?_; refine nq ?_; exact ⟨_, by omega, c + 1, by rcases Nat.lt_or_ge c b with h9 | h9 <;> first | omega | (exfalso; have e9 : c = b := (by omega); subst e9; rw [hbf] at h; simp at h), rfl, rfl, rfl, (by repeat (first | with_reducible exact dr_refl | apply dr_keep | apply dr_drop))⟩
      · exfalso; simp at h; omega
set_option maxRecDepth 20000 in
set_option maxHeartbeats 1000000 in
theorem Take13_no {A R : SP} {C : SP → SP} {X : WkX} {Y : WkY} {T : WkT} {s : DevS} (hc : Ct A (WkA X Y s) R C := by repeat (first | with_reducible exact ct_here | apply ct_left)) (hok : WkOk X Y T (s.ls.length * 64)) (hb : WkB X s) (ho : s.off = false := by assumption) (hf : leastB T X.n = none) :
    Fn Tryz.prog 70 #[.pointer (some ⟨X.w, 0, none⟩)] (A) (fun r B => r = .tuple #[.int .i64 0, .int .i64 7] ∧ B = C (WkA X Y s)) := by
  refine fn_enterW (args := [.pointer (some ⟨X.w, 0, none⟩)]) Tryz.func70 rfl Tryz.ntmps70 (by simp) ?_
  have hnf := leastB_none.1 hf
  obtain ⟨hb1, hb2, hb3⟩ := id hb
  have hle := hok.le
  obtain ⟨rfl, hC⟩ := hc
  refine tc_eq (show _ = R * pt X.h (cl (hcs X.p X.ba X.n X.lv (some X.w)) 210) * pt X.w (cl (wcs X.h X.t X.tk X.gv Y.ls false) 66) * pt X.lv (mpo .i64 Y.Ml) * pt X.tk (mpo .i64 Y.Mt) * pt X.gv (mpo .i64 Y.Mg) * TxA X.t X.p X.lg X.d X.mb X.at_ X.sz Y.M false s by unfold WkA; ac_rfl) ?_; refine sr ?_; refine tla ?_; refine tla ?_; refine nq ?_; refine tc_seq ?_; refine sr ?_; refine tlm ?_; refine tl_c rfl (o_call bd144 rfl (begin13_c (s := s) (X := X) (Y := Y) (T := T) (R := R) (C := fun Z => R * Z) (hc := ⟨by unfold WkA; ac_rfl, fun _ => rfl⟩) (hok := hok) (hb := hb))) ?_; rintro _ _ ⟨rfl, rfl⟩; refine tla ?_; refine nq ?_; refine sr ?_; refine tlm ?_; refine tv (o_nei rfl rfl) ?_; refine nq ?_; refine tc_cond rfl (fun h => ?_) (fun h => ?_)
  · exfalso; simp at h
  · try simp only [lv1, lv2, lv3, lv4, lv5, lv6, Bool.not_true, Bool.not_false] at h
    refine tc_skip ?_; refine q_then_n ?_; refine tc_seq ?_; refine sr ?_; refine tlm ?_; refine tv (o_nilCheck rfl) ?_; refine tv (o_fieldAddr (o := 4) Tryz.underlying66 rfl rfl sz3 rfl) ?_; refine tv (o_load p3 rfl (by repeat (first | with_reducible exact has_here | with_reducible exact has_pt | apply has_left)) rfl) ?_; refine tla ?_; refine nq ?_; refine tc_block ?_; refine tc_loop (fun kk ρ BB => ∃ (c : Nat), (c ≤ X.n) ∧ kk = X.n - c ∧ ρ 5 = .int .i64 (c : Nat) ∧ ρ 0 = .pointer (some ⟨X.w, 0, none⟩) ∧ Dr BB (R * pt X.h (cl (hcs X.p X.ba X.n X.lv (some X.w)) 210) * pt X.w (cl (wcs X.h X.t X.tk X.gv Y.ls false) 66) * pt X.lv (mpo .i64 Y.Ml) * pt X.tk (mpo .i64 Y.Mt) * pt X.gv (mpo .i64 Y.Mg) * TxA X.t X.p X.lg X.d X.mb X.at_ X.sz Y.M false s)) (m := X.n - (Y.ls)) ?_ ?_
    · exact ⟨Y.ls, by omega, rfl, rfl, rfl, (by repeat (first | with_reducible exact dr_refl | apply dr_keep | apply dr_drop))⟩
    · intro k ρ B hI
      obtain ⟨c, hp0, hkk1, hE5, hE0, hBA⟩ := hI
      refine tc_pre hBA.sat ?_
      clear hBA
      refine tc_env (d := 5) hE5 ?_; refine tc_env (d := 0) hE0 ?_
      clear hE5 hE0
      refine tc_seq ?_; refine sr ?_; refine tlm ?_; refine tlm ?_; refine tv (o_nilCheck rfl) ?_; refine tv (o_fieldAddr (o := 0) Tryz.underlying66 rfl rfl sz27 rfl) ?_; refine tv (o_load p27 rfl (by repeat (first | with_reducible exact has_here | with_reducible exact has_pt | apply has_left)) rfl) ?_; refine tv (o_nilCheck rfl) ?_; refine tv (o_fieldAddr (o := 2) Tryz.underlying210 rfl rfl sz3 rfl) ?_; refine tv (o_load p3 rfl (by repeat (first | with_reducible exact has_here | with_reducible exact has_pt | apply has_left)) rfl) ?_; refine tv (o_lss rfl rfl) ?_; refine nq ?_; refine tc_cond rfl (fun h => ?_) (fun h => ?_)
      · have hcn : c < X.n := by first | omega | (simp at h; omega)
        refine tc_skip ?_; refine q_then_n ?_; refine tc_seq ?_; refine tc_block ?_; refine sr ?_; refine tlm ?_; refine tv (o_nilCheck rfl) ?_; refine tv (o_fieldAddr (o := 0) Tryz.underlying66 rfl rfl sz27 rfl) ?_; refine tv (o_load p27 rfl (by repeat (first | with_reducible exact has_here | with_reducible exact has_pt | apply has_left)) rfl) ?_; refine tv (o_nilCheck rfl) ?_; refine tv (o_fieldAddr (o := 3) Tryz.underlying210 rfl rfl sz64 rfl) ?_; refine tv (o_load p64 rfl (by repeat (first | with_reducible exact has_here | with_reducible exact has_pt | apply has_left)) rfl) ?_; refine tlm ?_; refine tv (o_lookupOk (ik := .i64) (M := Y.Ml) Tryz.underlying64 Tryz.underlying3 z4 rfl rfl (by repeat (first | with_reducible exact has_here | with_reducible exact has_pt | apply has_left))) ?_; refine tl_env (d := 37) (v := .tuple #[.bool (T.lv c), .bool (T.lv c)]) (by show Value.tuple #[(Y.Ml.get (c : Int)).getD _, .bool (Y.Ml.get (c : Int)).isSome] = _; rw [mapV Y.Ml (c : Int) hok.l, mapN Y.Ml (c : Int) hok.l]; simp) ?_; refine tlm ?_; refine tv (o_extract rfl rfl) ?_; refine tv (o_extract rfl rfl) ?_; refine tla ?_; refine tla ?_; refine nq ?_; refine tc_seq ?_; refine tc_cut (fun ρ BB => ρ 50 = .bool (freeB T c) ∧ ρ 0 = .pointer (some ⟨X.w, 0, none⟩) ∧ ρ 5 = .int .i64 (c : Nat) ∧ Dr BB (R * pt X.h (cl (hcs X.p X.ba X.n X.lv (some X.w)) 210) * pt X.w (cl (wcs X.h X.t X.tk X.gv Y.ls false) 66) * pt X.lv (mpo .i64 Y.Ml) * pt X.tk (mpo .i64 Y.Mt) * pt X.gv (mpo .i64 Y.Mg) * TxA X.t X.p X.lg X.d X.mb X.at_ X.sz Y.M false s)) ?_ ?_
        · skip
          refine tc_reg ?_; refine tlm ?_; refine tv (o_not rfl) ?_; refine tlm ?_; refine tl_bool (d := 42) rfl (fun h => ?_) (fun h => ?_)
          · try simp only [lv1, lv2, lv3, lv4, lv5, lv6, Bool.not_true, Bool.not_false] at h
            refine tlm ?_; refine tv (o_nilCheck rfl) ?_; refine tv (o_fieldAddr (o := 2) Tryz.underlying66 rfl rfl sz64 rfl) ?_; refine tv (o_load p64 rfl (by repeat (first | with_reducible exact has_here | with_reducible exact has_pt | apply has_left)) rfl) ?_; refine tlm ?_; refine tv (o_lookup (ik := .i64) (M := Y.Mt) Tryz.underlying64 Tryz.underlying3 z4 rfl rfl (by repeat (first | with_reducible exact has_here | with_reducible exact has_pt | apply has_left))) ?_; refine tl_env (d := 48) (v := .bool (T.tk c)) (by show (Y.Mt.get (c : Int)).getD _ = _; rw [mapV Y.Mt (c : Int) hok.t]; simp) ?_; refine tv (o_not rfl) ?_; refine tv (o_pick_t rfl (by conv => lhs; whnf)) ?_; refine tl_nil ?_; exact ⟨by unfold freeB; cases h1 : T.lv c <;> cases h2 : T.tk c <;> simp [h1, h2] at * <;> rfl, rfl, rfl, (by repeat (first | with_reducible exact dr_refl | apply dr_keep | apply dr_drop))⟩
          · try simp only [lv1, lv2, lv3, lv4, lv5, lv6, Bool.not_true, Bool.not_false] at h
            refine tk ?_; refine tk ?_; refine tk ?_; refine tk ?_; refine tk ?_; refine tk ?_; refine tk ?_; refine tv (o_pick_f rfl (by conv => lhs; whnf)) ?_; refine tl_nil ?_; exact ⟨by unfold freeB; cases h1 : T.lv c <;> cases h2 : T.tk c <;> simp [h1, h2] at * <;> rfl, rfl, rfl, (by repeat (first | with_reducible exact dr_refl | apply dr_keep | apply dr_drop))⟩
        · intro ρ B hI
          obtain ⟨hE50, hE0, hE5, hBA⟩ := hI
          refine q_then_n ?_; refine tc_pre hBA.sat ?_
          clear hBA
          refine tc_env (d := 50) hE50 ?_; refine tc_env (d := 0) hE0 ?_; refine tc_env (d := 5) hE5 ?_
          clear hE50 hE0 hE5
          refine tc_cond rfl (fun h => ?_) (fun h => ?_)
          · exfalso; rw [hnf c hcn] at h; simp at h
          · try simp only [lv1, lv2, lv3, lv4, lv5, lv6, Bool.not_true, Bool.not_false] at h
            refine tc_skip ?_; refine q_block_n (q_then_n ?_); refine tc_reg ?_; refine tlm ?_; refine tv (by first | exact o_addI rfl rfl (by omega) | exact o_add rfl rfl) ?_; refine tla ?_; refine nq ?_; exact ⟨_, by omega, c + 1, by omega, rfl, rfl, rfl, (by repeat (first | with_reducible exact dr_refl | apply dr_keep | apply dr_drop))⟩
      · try simp only [lv1, lv2, lv3, lv4, lv5, lv6, Bool.not_true, Bool.not_false] at h
        refine tc_exit ?_; refine q_then_e (q_then_e (q_block_x (q_then_n ?_))); refine sr ?_; refine tla ?_; refine tla ?_; refine nq ?_; refine tc_ret ?_; exact ⟨_, C (WkA X Y s), res2 rfl rfl rfl, (fun g w h => by rw [hC]; exact (Dr.sat (A' := R * pt X.h (cl (hcs X.p X.ba X.n X.lv (some X.w)) 210) * pt X.w (cl (wcs X.h X.t X.tk X.gv Y.ls false) 66) * pt X.lv (mpo .i64 Y.Ml) * pt X.tk (mpo .i64 Y.Mt) * pt X.gv (mpo .i64 Y.Mg) * TxA X.t X.p X.lg X.d X.mb X.at_ X.sz Y.M false s) (by repeat (first | with_reducible exact dr_refl | apply dr_keep | apply dr_drop)) g w h).perm (by unfold WkA; ac_rfl)), rfl, rfl⟩
theorem Give13_ok {A R : SP} {C : SP → SP} {X : WkX} {Y : WkY} {T : WkT} {s : DevS} (hc : Ct A (WkA X Y s) R C := by repeat (first | with_reducible exact ct_here | apply ct_left)) (hok : WkOk X Y T (s.ls.length * 64)) (hb : WkB X s) (ho : s.off = false := by assumption) {b : Nat} (hu : usedB T b = true) :
    Fn Tryz.prog 74 #[.pointer (some ⟨X.w, 0, none⟩), .int .i64 (b : Nat)] (A) (fun r B => ∃ Y2, r = .int .i64 0 ∧ WkOk X Y2 (T.give b) (s.ls.length * 64) ∧ B = C (WkA X Y2 s)) := by
  refine fn_enterW (args := [.pointer (some ⟨X.w, 0, none⟩), .int .i64 (b : Nat)]) Tryz.func74 rfl Tryz.ntmps74 (by simp) ?_
  obtain ⟨hb1, hb2, hb3⟩ := id hb
  have hle := hok.le
  have hun := used_n hok hu
  obtain ⟨rfl, hC⟩ := hc
  refine tc_eq (show _ = R * pt X.h (cl (hcs X.p X.ba X.n X.lv (some X.w)) 210) * pt X.w (cl (wcs X.h X.t X.tk X.gv Y.ls false) 66) * pt X.lv (mpo .i64 Y.Ml) * pt X.tk (mpo .i64 Y.Mt) * pt X.gv (mpo .i64 Y.Mg) * TxA X.t X.p X.lg X.d X.mb X.at_ X.sz Y.M false s by unfold WkA; ac_rfl) ?_; refine sr ?_; refine tla ?_; refine nq ?_; refine tc_seq ?_; refine sr ?_; refine tlm ?_; refine tlm ?_; refine tl_c rfl (o_call bd86 rfl (use13_c (s := s) (X := X) (Y := Y) (T := T) (R := R) (C := fun Z => R * Z) (b := (b : Int)) (hc := ⟨by unfold WkA; ac_rfl, fun _ => rfl⟩) (hok := hok) (hb := hb))) ?_; rintro _ _ ⟨rfl, rfl⟩; refine tl_env (d := 8) (v := .int .i64 0) (by show Value.int .i64 (if usedZ T (b : Int) = true then 0 else 130) = _; rw [usedZ_nat, if_pos hu]) ?_; refine tla ?_; refine nq ?_; refine sr ?_; refine tlm ?_; refine tv (o_nei rfl rfl) ?_; refine nq ?_; refine tc_cond rfl (fun h => ?_) (fun h => ?_)
  · exfalso; simp at h
  · try simp only [lv1, lv2, lv3, lv4, lv5, lv6, Bool.not_true, Bool.not_false] at h
    refine tc_skip ?_; refine q_then_n ?_; refine tc_seq ?_; refine sr ?_; refine tlm ?_; refine tv (o_nilCheck rfl) ?_; refine tv (o_fieldAddr (o := 2) Tryz.underlying66 rfl rfl sz64 rfl) ?_; refine tv (o_load p64 rfl (by repeat (first | with_reducible exact has_here | with_reducible exact has_pt | apply has_left)) rfl) ?_; refine tlm ?_; refine tv (o_lookup (ik := .i64) (M := Y.Mt) Tryz.underlying64 Tryz.underlying3 z4 rfl rfl (by repeat (first | with_reducible exact has_here | with_reducible exact has_pt | apply has_left))) ?_; refine tl_env (d := 17) (v := .bool (T.tk b)) (by show (Y.Mt.get (b : Int)).getD _ = _; rw [mapV Y.Mt (b : Int) hok.t]; simp) ?_; refine nq ?_; refine tc_cut (fun ρ BB => ∃ (Y2 : WkY), (WkOk X Y2 (T.give b) (s.ls.length * 64)) ∧ Dr BB (R * pt X.h (cl (hcs X.p X.ba X.n X.lv (some X.w)) 210) * pt X.w (cl (wcs X.h X.t X.tk X.gv Y2.ls false) 66) * pt X.lv (mpo .i64 Y2.Ml) * pt X.tk (mpo .i64 Y2.Mt) * pt X.gv (mpo .i64 Y2.Mg) * TxA X.t X.p X.lg X.d X.mb X.at_ X.sz Y2.M false s)) ?_ ?_
    · skip
      refine tc_cond rfl (fun h => ?_) (fun h => ?_)
      · have htk : T.tk b = true := by first | exact h | simpa using h
        refine sr ?_; refine tlm ?_; refine tv (o_nilCheck rfl) ?_; refine tv (o_fieldAddr (o := 2) Tryz.underlying66 rfl rfl sz64 rfl) ?_; refine tv (o_load p64 rfl (by repeat (first | with_reducible exact has_here | with_reducible exact has_pt | apply has_left)) rfl) ?_; refine tlm ?_; refine tl_x rfl (o_delete (ik := .i64) (M := Y.Mt) Tryz.underlying64 Tryz.underlying3 rfl rfl (by repeat (first | with_reducible exact upd_here | with_reducible exact upd_pt | apply upd_left)) rfl) ?_; rintro _ _ ⟨rfl, rfl⟩; refine nq ?_; refine tc_reg ?_; refine tlm ?_; refine tlm ?_; refine tv (o_nilCheck rfl) ?_; refine tv (o_fieldAddr (o := 4) Tryz.underlying66 rfl rfl sz3 rfl) ?_; refine tv (o_load p3 rfl (by repeat (first | with_reducible exact has_here | with_reducible exact has_pt | apply has_left)) rfl) ?_; refine tlm ?_; refine tv (o_min2 Tryz.underlying3 rfl rfl) ?_; refine tv (o_nilCheck rfl) ?_; refine tv (o_fieldAddr (o := 4) Tryz.underlying66 rfl rfl sz3 rfl) ?_; refine tl_u rfl (o_stU (l' := wcs X.h X.t X.tk X.gv (min Y.ls b) false) rfl (by repeat (first | with_reducible exact upd_here | with_reducible exact upd_pt | apply upd_left)) sz3 rfl rfl (by show 4 < 6; decide) rfl) ?_; refine tl_nil ?_; exact ⟨{ Y with Mt := Y.Mt.del (b : Int), ls := min Y.ls b }, by first | exact ok_give hok htk | exact ok_give2 hok htk hu, (by repeat (first | with_reducible exact dr_refl | apply dr_keep | apply dr_drop))⟩
      · have htk : ¬ T.tk b = true := by first | exact Bool.eq_false_iff.1 h | (rw [h]; decide)
        refine tc_reg ?_; refine tlm ?_; refine tv (o_nilCheck rfl) ?_; refine tv (o_fieldAddr (o := 3) Tryz.underlying66 rfl rfl sz64 rfl) ?_; refine tv (o_load p64 rfl (by repeat (first | with_reducible exact has_here | with_reducible exact has_pt | apply has_left)) rfl) ?_; refine tlm ?_; refine tl_u rfl (o_mapUpdate (ik := .i64) (M := Y.Mg) (v := .bool true) Tryz.underlying64 Tryz.underlying3 rfl (by repeat (first | with_reducible exact upd_here | with_reducible exact upd_pt | apply upd_left)) rfl rfl rfl) ?_; refine tl_nil ?_; exact ⟨{ Y with Mg := Y.Mg.put (b : Int) (.bool true) }, by first | exact ok_give hok htk | exact ok_give2 hok htk hu, (by repeat (first | with_reducible exact dr_refl | apply dr_keep | apply dr_drop))⟩
    · intro ρ B hI
      obtain ⟨Y2, hgv0, hBA⟩ := hI
      refine q_then_n ?_; refine tc_pre hBA.sat ?_
      clear hBA
      refine sr ?_; refine tla ?_; refine nq ?_; refine tc_ret ?_; exact ⟨_, C (WkA X Y2 s), res1 rfl rfl, (fun g w h => by rw [hC]; exact (Dr.sat (A' := R * pt X.h (cl (hcs X.p X.ba X.n X.lv (some X.w)) 210) * pt X.w (cl (wcs X.h X.t X.tk X.gv Y2.ls false) 66) * pt X.lv (mpo .i64 Y2.Ml) * pt X.tk (mpo .i64 Y2.Mt) * pt X.gv (mpo .i64 Y2.Mg) * TxA X.t X.p X.lg X.d X.mb X.at_ X.sz Y2.M false s) (by repeat (first | with_reducible exact dr_refl | apply dr_keep | apply dr_drop)) g w h).perm (by unfold WkA; ac_rfl)), Y2, rfl, hgv0, rfl⟩
theorem Read13_ok {A R : SP} {C : SP → SP} {X : WkX} {Y : WkY} {T : WkT} {s : DevS} (hc : Ct A (WkA X Y s) R C := by repeat (first | with_reducible exact ct_here | apply ct_left)) (hok : WkOk X Y T (s.ls.length * 64)) (hb : WkB X s) (ho : s.off = false := by assumption) {b : Nat} (hu : usedB T b = true) :
    Fn Tryz.prog 24 #[.pointer (some ⟨X.w, 0, none⟩), .int .i64 (b : Nat)] (A) (fun r B => ∃ a c, r = .tuple #[.slice a 256 c, .int .i64 0] ∧ 256 ≤ c ∧ B = A * Sl 1 (.slice a 256 c) 256 (bys (ovF T.f (X.ba + 256 * b) (((imgS s).drop (X.ba + 256 * b)).take 256)))) := by
  refine fn_enterW (args := [.pointer (some ⟨X.w, 0, none⟩), .int .i64 (b : Nat)]) Tryz.func24 rfl Tryz.ntmps24 (by simp) ?_
  have hw9 := wka_w hc
  have hh9 := wka_h hc
  have hl9 := wka_lv hc
  have ht9 := wka_tk hc
  have hg9 := wka_gv hc
  have hB := hb
  obtain ⟨hb1, hb2, hb3⟩ := hB
  have hun := used_n hok hu
  refine sr ?_; refine tla ?_; refine tla ?_; refine nq ?_; refine tc_seq ?_; refine sr ?_; refine tlm ?_; refine tlm ?_; refine tl_c rfl (o_call bd86 rfl (use13_c (hc := hc) (b := (b : Int)) (hok := hok) (hb := hb))) ?_; rintro _ _ ⟨rfl, rfl⟩; refine tl_env (d := 11) (v := .int .i64 0) (by show Value.int .i64 (if usedZ T (b : Int) = true then 0 else 130) = _; rw [usedZ_nat, if_pos hu]) ?_; refine tla ?_; refine nq ?_; refine sr ?_; refine tlm ?_; refine tv (o_nei rfl rfl) ?_; refine nq ?_; refine tc_cond rfl (fun h => ?_) (fun h => ?_)
  · exfalso; simp at h
  · try simp only [lv1, lv2, lv3, lv4, lv5, lv6, Bool.not_true, Bool.not_false] at h
    refine tc_skip ?_; refine q_then_n ?_; refine tc_seq ?_; refine tc_regh mo dr_refl ?_
    show TH _ _ _ _ _ 16 #[ff,ff,ff,ff,ff,ff,ff,ff,ff,ff,ff,ff,ff,ff,ff,ff] _ _
    refine th_take (i := 0) (listed' := #[tt,ff,ff,ff,ff,ff,ff,ff,ff,ff,ff,ff,ff,ff,ff,ff]) rfl (by kernel_rfl) (by kernel_rfl) (by kernel_rfl) rfl rfl (o_move (by conv => lhs; whnf)) ?_; refine th_take (i := 1) (listed' := #[tt,tt,ff,ff,ff,ff,ff,ff,ff,ff,ff,ff,ff,ff,ff,ff]) rfl (by kernel_rfl) (by kernel_rfl) (by kernel_rfl) rfl rfl (o_nilCheck rfl) ?_; refine th_take (i := 2) (listed' := #[tt,tt,tt,ff,ff,ff,ff,ff,ff,ff,ff,ff,ff,ff,ff,ff]) rfl (by kernel_rfl) (by kernel_rfl) (by kernel_rfl) rfl rfl (o_fieldAddr (o := 1) Tryz.underlying66 rfl rfl sz62 rfl) ?_; refine th_take (i := 3) (listed' := #[tt,tt,tt,tt,ff,ff,ff,ff,ff,ff,ff,ff,ff,ff,ff,ff]) rfl (by kernel_rfl) (by kernel_rfl) (by kernel_rfl) rfl rfl (o_load p62 rfl hw9 rfl) ?_; refine th_take (i := 4) (listed' := #[tt,tt,tt,tt,tt,ff,ff,ff,ff,ff,ff,ff,ff,ff,ff,ff]) rfl (by kernel_rfl) (by kernel_rfl) (by kernel_rfl) rfl rfl (o_move (by conv => lhs; whnf)) ?_; refine th_take (i := 5) (listed' := #[tt,tt,tt,tt,tt,tt,ff,ff,ff,ff,ff,ff,ff,ff,ff,ff]) rfl (by kernel_rfl) (by kernel_rfl) (by kernel_rfl) rfl rfl (o_nilCheck rfl) ?_; refine th_take (i := 6) (listed' := #[tt,tt,tt,tt,tt,tt,tt,ff,ff,ff,ff,ff,ff,ff,ff,ff]) rfl (by kernel_rfl) (by kernel_rfl) (by kernel_rfl) rfl rfl (o_fieldAddr (o := 0) Tryz.underlying66 rfl rfl sz27 rfl) ?_; refine th_take (i := 7) (listed' := #[tt,tt,tt,tt,tt,tt,tt,tt,ff,ff,ff,ff,ff,ff,ff,ff]) rfl (by kernel_rfl) (by kernel_rfl) (by kernel_rfl) rfl rfl (o_load p27 rfl hw9 rfl) ?_; refine th_take (i := 8) (listed' := #[tt,tt,tt,tt,tt,tt,tt,tt,tt,ff,ff,ff,ff,ff,ff,ff]) rfl (by kernel_rfl) (by kernel_rfl) (by kernel_rfl) rfl rfl (o_move (by conv => lhs; whnf)) ?_
    refine th_one (i := 9) (by kernel_rfl) ?_; refine oh_c (i := 9) (listed' := #[tt,tt,tt,tt,tt,tt,tt,tt,tt,tt,ff,ff,ff,ff,ff,ff]) rfl rfl rfl (o_call bd87 rfl (place13_c (hh := hh9))) ?_; rintro _ _ ⟨rfl, rfl⟩; refine ⟨by repeat (first | with_reducible exact dr_refl | apply dr_keep | apply dr_drop), ?_⟩; refine th_one (i := 10) (by kernel_rfl) ?_; refine oh_c (i := 10) (listed' := #[tt,tt,tt,tt,tt,tt,tt,tt,tt,tt,tt,ff,ff,ff,ff,ff]) rfl rfl rfl (o_call bd43 rfl (LoadT_c (hc := wka_txa hc) (n := s.ls.length * 64) (f := T.f) (q := X.ba + 256 * b) (m := 256) (hM := hok.m) (ho := ho) (hqm := by omega))) ?_; rintro _ _ ⟨a26, c26, rfl, hc26, rfl⟩; refine ⟨by repeat (first | with_reducible exact dr_refl | apply dr_keep | apply dr_drop), ?_⟩; refine th_take (i := 11) (listed' := #[tt,tt,tt,tt,tt,tt,tt,tt,tt,tt,tt,tt,ff,ff,ff,ff]) rfl (by kernel_rfl) (by kernel_rfl) (by kernel_rfl) rfl rfl (o_move (by conv => lhs; whnf)) ?_; refine th_take (i := 12) (listed' := #[tt,tt,tt,tt,tt,tt,tt,tt,tt,tt,tt,tt,tt,ff,ff,ff]) rfl (by kernel_rfl) (by kernel_rfl) (by kernel_rfl) rfl rfl (o_extract rfl rfl) ?_; refine th_take (i := 13) (listed' := #[tt,tt,tt,tt,tt,tt,tt,tt,tt,tt,tt,tt,tt,tt,ff,ff]) rfl (by kernel_rfl) (by kernel_rfl) (by kernel_rfl) rfl rfl (o_extract rfl rfl) ?_; refine th_take (i := 14) (listed' := #[tt,tt,tt,tt,tt,tt,tt,tt,tt,tt,tt,tt,tt,tt,tt,ff]) rfl (by kernel_rfl) (by kernel_rfl) (by kernel_rfl) rfl rfl (o_assign (by conv => lhs; whnf)) ?_; refine th_take (i := 15) (listed' := #[tt,tt,tt,tt,tt,tt,tt,tt,tt,tt,tt,tt,tt,tt,tt,tt]) rfl (by kernel_rfl) (by kernel_rfl) (by kernel_rfl) rfl rfl (o_assign (by conv => lhs; whnf)) ?_
    refine th_done (by kernel_rfl) ?_; refine q_then_n ?_; refine sr ?_; refine tlm ?_; refine tlm ?_; refine tlm ?_; refine tl_c rfl (o_call bd88 rfl (seen0_c)) ?_; rintro _ _ ⟨rfl, rfl⟩; refine tla ?_; refine tla ?_; refine nq ?_; refine tc_ret ?_; exact ⟨_, _, res2 rfl rfl rfl, Dr.sat (by repeat (first | with_reducible exact dr_refl | apply dr_keep | apply dr_drop)), a26, c26, rfl, hc26, rfl⟩
theorem Read13_no {A R : SP} {C : SP → SP} {X : WkX} {Y : WkY} {T : WkT} {s : DevS} (hc : Ct A (WkA X Y s) R C := by repeat (first | with_reducible exact ct_here | apply ct_left)) (hok : WkOk X Y T (s.ls.length * 64)) (hb : WkB X s) (ho : s.off = false := by assumption) {b : Int} (hu : usedZ T b = false) :
    Fn Tryz.prog 24 #[.pointer (some ⟨X.w, 0, none⟩), .int .i64 b] (A) (fun r B => r = .tuple #[.slice none 0 0, .int .i64 130] ∧ A = B) := by
  refine fn_enterW (args := [.pointer (some ⟨X.w, 0, none⟩), .int .i64 b]) Tryz.func24 rfl Tryz.ntmps24 (by simp) ?_; refine sr ?_; refine tla ?_; refine tla ?_; refine nq ?_; refine tc_seq ?_; refine sr ?_; refine tlm ?_; refine tlm ?_; refine tl_c rfl (o_call bd86 rfl (use13_c (hc := hc) (b := b) (hok := hok) (hb := hb))) ?_; rintro _ _ ⟨rfl, rfl⟩; refine tl_env (d := 11) (v := .int .i64 130) (by show Value.int .i64 (if usedZ T b = true then 0 else 130) = _; rw [hu]; rfl) ?_; refine tla ?_; refine nq ?_; refine sr ?_; refine tlm ?_; refine tv (o_nei rfl rfl) ?_; refine nq ?_; refine tc_cond rfl (fun h => ?_) (fun h => ?_)
  · try simp only [lv1, lv2, lv3, lv4, lv5, lv6, Bool.not_true, Bool.not_false] at h
    refine sr ?_; refine tlm ?_; refine tla ?_; refine tla ?_; refine nq ?_; refine tc_ret ?_; refine q_then_r ?_; exact ⟨_, _, res2 rfl rfl rfl, Dr.sat (by repeat (first | with_reducible exact dr_refl | apply dr_keep | apply dr_drop)), rfl, rfl⟩
  · exfalso; simp at h
theorem Write13_ok {A R : SP} {C : SP → SP} {X : WkX} {Y : WkY} {T : WkT} {s : DevS} (hc : Ct A (WkA X Y s) R C := by repeat (first | with_reducible exact ct_here | apply ct_left)) (hok : WkOk X Y T (s.ls.length * 64)) (hb : WkB X s) (ho : s.off = false := by assumption) {b : Nat} (hu : usedB T b = true) {a : Option Addr} {c : Nat} {xs : List Nat} (hr : Rs R a (bys xs) := by repeat (first | assumption | with_reducible exact rs_sl | with_reducible exact rs_pt0 | exact rs_none | apply Rs.left)) (hxl : xs.length = 256) (hxb : ∀ x ∈ xs, x < 256) :
    Fn Tryz.prog 71 #[.pointer (some ⟨X.w, 0, none⟩), .int .i64 (b : Nat), .slice a 256 c] (A) (fun r B => ∃ Y2, r = .int .i64 0 ∧ WkOk X Y2 (T.write X.ba b xs) (s.ls.length * 64) ∧ B = C (WkA X Y2 s)) := by
  refine fn_enterW (args := [.pointer (some ⟨X.w, 0, none⟩), .int .i64 (b : Nat), .slice a 256 c]) Tryz.func71 rfl Tryz.ntmps71 (by simp) ?_
  obtain ⟨hb1, hb2, hb3⟩ := id hb
  have hle := hok.le
  have hun := used_n hok hu
  obtain ⟨rfl, hC⟩ := hc
  refine tc_eq (show _ = R * pt X.h (cl (hcs X.p X.ba X.n X.lv (some X.w)) 210) * pt X.w (cl (wcs X.h X.t X.tk X.gv Y.ls false) 66) * pt X.lv (mpo .i64 Y.Ml) * pt X.tk (mpo .i64 Y.Mt) * pt X.gv (mpo .i64 Y.Mg) * TxA X.t X.p X.lg X.d X.mb X.at_ X.sz Y.M false s by unfold WkA; ac_rfl) ?_; refine sr ?_; refine tla ?_; refine nq ?_; refine tc_seq ?_; refine sr ?_; refine tlm ?_; refine tlm ?_; refine tl_c rfl (o_call bd86 rfl (use13_c (s := s) (X := X) (Y := Y) (T := T) (R := R) (C := fun Z => R * Z) (b := (b : Int)) (hc := ⟨by unfold WkA; ac_rfl, fun _ => rfl⟩) (hok := hok) (hb := hb))) ?_; rintro _ _ ⟨rfl, rfl⟩; refine tl_env (d := 11) (v := .int .i64 0) (by show Value.int .i64 (if usedZ T (b : Int) = true then 0 else 130) = _; rw [usedZ_nat, if_pos hu]) ?_; refine tla ?_; refine nq ?_; refine sr ?_; refine tlm ?_; refine tv (o_nei rfl rfl) ?_; refine nq ?_; refine tc_cond rfl (fun h => ?_) (fun h => ?_)
  · exfalso; simp at h
  · try simp only [lv1, lv2, lv3, lv4, lv5, lv6, Bool.not_true, Bool.not_false] at h
    refine tc_skip ?_; refine q_then_n ?_; refine tc_seq ?_; refine sr ?_; refine tlm ?_; refine tv (o_len Tryz.underlying57 rfl) ?_; refine tv (o_nei rfl rfl) ?_; refine nq ?_; refine tc_cond rfl (fun h => ?_) (fun h => ?_)
    · exfalso; simp at h
    · try simp only [lv1, lv2, lv3, lv4, lv5, lv6, Bool.not_true, Bool.not_false] at h
      refine tc_skip ?_; refine q_then_n ?_; refine sr ?_; refine tlm ?_; refine tv (o_nilCheck rfl) ?_; refine tv (o_fieldAddr (o := 1) Tryz.underlying66 rfl rfl sz62 rfl) ?_; refine tv (o_load p62 rfl (by repeat (first | with_reducible exact has_here | with_reducible exact has_pt | apply has_left)) rfl) ?_; refine tv (o_makeFunc (fs := [.pointer (some ⟨X.t, 0, none⟩)]) (cs := []) rfl rfl) ?_; refine tla ?_; refine nq ?_; refine tc_seq ?_; refine sr ?_; refine tlm ?_; refine tv (o_nilCheck rfl) ?_; refine tv (o_fieldAddr (o := 2) Tryz.underlying66 rfl rfl sz64 rfl) ?_; refine tv (o_load p64 rfl (by repeat (first | with_reducible exact has_here | with_reducible exact has_pt | apply has_left)) rfl) ?_; refine tlm ?_; refine tv (o_lookup (ik := .i64) (M := Y.Mt) Tryz.underlying64 Tryz.underlying3 z4 rfl rfl (by repeat (first | with_reducible exact has_here | with_reducible exact has_pt | apply has_left))) ?_; refine tl_env (d := 28) (v := .bool (T.tk b)) (by show (Y.Mt.get (b : Int)).getD _ = _; rw [mapV Y.Mt (b : Int) hok.t]; simp) ?_; refine nq ?_; refine tc_cond rfl (fun h => ?_) (fun h => ?_)
      · have htk : T.tk b = true := by first | exact h | simpa using h
        refine tc_reg ?_; refine tlm ?_; refine tv (o_nilCheck rfl) ?_; refine tv (o_fieldAddr (o := 1) Tryz.underlying66 rfl rfl sz62 rfl) ?_; refine tv (o_load p62 rfl (by repeat (first | with_reducible exact has_here | with_reducible exact has_pt | apply has_left)) rfl) ?_; refine tv (o_makeFunc (fs := [.pointer (some ⟨X.t, 0, none⟩)]) (cs := []) rfl rfl) ?_; refine tla ?_; refine nq ?_; refine sr ?_; refine tlm ?_; refine tlm ?_; refine tlm ?_; refine tv (o_nilCheck rfl) ?_; refine tv (o_fieldAddr (o := 0) Tryz.underlying66 rfl rfl sz27 rfl) ?_; refine tv (o_load p27 rfl (by repeat (first | with_reducible exact has_here | with_reducible exact has_pt | apply has_left)) rfl) ?_; refine tlm ?_; refine tl_c rfl (o_call bd87 rfl (place13_c)) ?_; rintro _ _ ⟨rfl, rfl⟩; refine tlm ?_; refine tl_c rfl (o_dyn bd47 rfl rfl (FreshT_c (s := s) (n := s.ls.length * 64) (f := T.f) (q := X.ba + 256 * b) (xs := xs) (hM := hok.m) (hn := rfl) (ho := ho) (hr := by repeat (first | exact hr | apply Rs.left)) (hm := hxl) (hb := hxb) (hqm := by omega))) ?_; rintro _ _ ⟨M43, rfl, hM43, rfl⟩; refine tl_c rfl (o_call bd88 rfl (seen0_c)) ?_; rintro _ _ ⟨rfl, rfl⟩; refine tla ?_; refine nq ?_; refine tc_ret ?_; exact ⟨_, C (WkA X { Y with M := M43 } s), res1 rfl rfl, (fun g w h => by rw [hC]; exact (Dr.sat (A' := R * pt X.h (cl (hcs X.p X.ba X.n X.lv (some X.w)) 210) * pt X.w (cl (wcs X.h X.t X.tk X.gv Y.ls false) 66) * pt X.lv (mpo .i64 Y.Ml) * pt X.tk (mpo .i64 Y.Mt) * pt X.gv (mpo .i64 Y.Mg) * TxA X.t X.p X.lg X.d X.mb X.at_ X.sz M43 false s) (by repeat (first | with_reducible exact dr_refl | apply dr_keep | apply dr_drop)) g w h).perm (by unfold WkA; ac_rfl)), { Y with M := M43 }, rfl, ok_write hok (by rw [htk]; exact hM43), rfl⟩
      · have htk : T.tk b = false := by first | exact h | simpa using h
        refine tc_skip ?_; refine q_then_n ?_; refine sr ?_; refine tlm ?_; refine tlm ?_; refine tlm ?_; refine tv (o_nilCheck rfl) ?_; refine tv (o_fieldAddr (o := 0) Tryz.underlying66 rfl rfl sz27 rfl) ?_; refine tv (o_load p27 rfl (by repeat (first | with_reducible exact has_here | with_reducible exact has_pt | apply has_left)) rfl) ?_; refine tlm ?_; refine tl_c rfl (o_call bd87 rfl (place13_c)) ?_; rintro _ _ ⟨rfl, rfl⟩; refine tlm ?_; refine tl_c rfl (o_dyn bd46 rfl rfl (StoreT_c (s := s) (n := s.ls.length * 64) (f := T.f) (q := X.ba + 256 * b) (xs := xs) (hM := hok.m) (hn := rfl) (ho := ho) (hr := by repeat (first | exact hr | apply Rs.left)) (hm := hxl) (hb := hxb) (hqm := by omega))) ?_; rintro _ _ ⟨M43, rfl, hM43, rfl⟩; refine tl_c rfl (o_call bd88 rfl (seen0_c)) ?_; rintro _ _ ⟨rfl, rfl⟩; refine tla ?_; refine nq ?_; refine tc_ret ?_; exact ⟨_, C (WkA X { Y with M := M43 } s), res1 rfl rfl, (fun g w h => by rw [hC]; exact (Dr.sat (A' := R * pt X.h (cl (hcs X.p X.ba X.n X.lv (some X.w)) 210) * pt X.w (cl (wcs X.h X.t X.tk X.gv Y.ls false) 66) * pt X.lv (mpo .i64 Y.Ml) * pt X.tk (mpo .i64 Y.Mt) * pt X.gv (mpo .i64 Y.Mg) * TxA X.t X.p X.lg X.d X.mb X.at_ X.sz M43 false s) (by repeat (first | with_reducible exact dr_refl | apply dr_keep | apply dr_drop)) g w h).perm (by unfold WkA; ac_rfl)), { Y with M := M43 }, rfl, ok_write hok (by rw [htk]; exact hM43), rfl⟩
theorem Root13_c {A R : SP} {C : SP → SP} {X : WkX} {Y : WkY} {T : WkT} {s : DevS} (hc : Ct A (WkA X Y s) R C := by repeat (first | with_reducible exact ct_here | apply ct_left)) (hok : WkOk X Y T (s.ls.length * 64)) (hb : WkB X s) (ho : s.off = false := by assumption) :
    Fn Tryz.prog 143 #[.pointer (some ⟨X.w, 0, none⟩)] (A) (fun r B => ∃ v, r = .tuple #[.int .u64 v, .int .i64 0] ∧ A = B) := by
  refine fn_enterW (args := [.pointer (some ⟨X.w, 0, none⟩)]) Tryz.func143 rfl Tryz.ntmps143 (by simp) ?_
  have hw9 := wka_w hc
  have hh9 := wka_h hc
  have hl9 := wka_lv hc
  have ht9 := wka_tk hc
  have hg9 := wka_gv hc
  have hB := hb
  obtain ⟨hb1, hb2, hb3⟩ := hB
  have hN : 128 ≤ s.ls.length * 64 := by omega
  refine sr ?_; refine tla ?_; refine tla ?_; refine nq ?_; refine tc_seq ?_; refine sr ?_; refine tlm ?_; refine tl_c rfl (o_call bd144 rfl (begin13_c (hc := hc) (hok := hok) (hb := hb))) ?_; rintro _ _ ⟨rfl, rfl⟩; refine tla ?_; refine nq ?_; refine sr ?_; refine tlm ?_; refine tv (o_nei rfl rfl) ?_; refine nq ?_; refine tc_cond rfl (fun h => ?_) (fun h => ?_)
  · exfalso; simp at h
  · try simp only [lv1, lv2, lv3, lv4, lv5, lv6, Bool.not_true, Bool.not_false] at h
    refine tc_skip ?_; refine q_then_n ?_; refine sr ?_; refine tlm ?_; refine tv (o_nilCheck rfl) ?_; refine tv (o_fieldAddr (o := 1) Tryz.underlying66 rfl rfl sz62 rfl) ?_; refine tv (o_load p62 rfl hw9 rfl) ?_; refine tl_c rfl (o_call bd43 rfl (LoadT_c (hc := wka_txa hc) (n := s.ls.length * 64) (f := T.f) (q := 64) (m := 8) (hM := hok.m) (ho := ho) (hqm := by omega))) ?_; rintro _ _ ⟨a20, c20, rfl, hc20, rfl⟩; refine tlm ?_; refine tv (o_extract rfl rfl) ?_; refine tv (o_extract rfl rfl) ?_; refine tla ?_; refine tla ?_; refine nq ?_; refine tc_seq ?_; refine sr ?_; refine tlm ?_; refine tv (o_nei rfl rfl) ?_; refine nq ?_; refine tc_cond rfl (fun h => ?_) (fun h => ?_)
    · exfalso; simp at h
    · try simp only [lv1, lv2, lv3, lv4, lv5, lv6, Bool.not_true, Bool.not_false] at h
      refine tc_skip ?_; refine q_then_n ?_; refine tc_seq ?_
      obtain ⟨zs, hzs⟩ : ∃ zs, ovF T.f 64 (((imgS s).drop 64).take 8) = zs := ⟨_, rfl⟩
      rw [hzs]
      refine tc_have (fun _ _ h => sl_len h) fun hzl => ?_
      rw [bys_length] at hzl
      refine tc_reg ?_; refine tla ?_; refine nq ?_; refine tc_seq ?_; refine sr ?_; refine tlm ?_; refine tv (o_len Tryz.underlying57 rfl) ?_; refine tlm ?_; refine nq ?_; refine tc_block ?_; refine tc_loop (fun kk ρ BB => ∃ (i : Nat) (v : Value), (i ≤ 8) ∧ (∃ z, v = .int .u64 z) ∧ kk = 8 - i ∧ ρ 30 = .int .i64 (i : Nat) ∧ ρ 7 = v ∧ ρ 28 = .slice a20 8 c20 ∧ ρ 29 = .int .i64 8 ∧ Dr BB (A * Sl 1 (.slice a20 8 c20) 8 (bys zs))) (m := 8 - (0)) ?_ ?_
      · exact ⟨0, .int .u64 0, by omega, ⟨0, rfl⟩, rfl, rfl, rfl, rfl, rfl, (by repeat (first | with_reducible exact dr_refl | apply dr_keep | apply dr_drop))⟩
      · intro k ρ B hI
        obtain ⟨i, v, hp0, hp1, hkk1, hE30, hE7, hE28, hE29, hBA⟩ := hI
        refine tc_pre hBA.sat ?_
        clear hBA
        refine tc_env (d := 30) hE30 ?_; refine tc_env (d := 7) hE7 ?_; refine tc_env (d := 28) hE28 ?_; refine tc_env (d := 29) hE29 ?_
        clear hE30 hE7 hE28 hE29
        refine sr ?_; refine tv (o_lss rfl rfl) ?_; refine nq ?_; refine tc_seq ?_; refine tc_cond rfl (fun h => ?_) (fun h => ?_)
        · obtain ⟨z, rfl⟩ := hp1
          have hi : i < zs.length := by simp at h; omega
          obtain ⟨y, hy⟩ : ∃ y, zs[i] = y := ⟨_, rfl⟩
          refine tc_skip ?_; refine q_then_n ?_; refine tc_seq ?_; refine tc_block ?_; refine sr ?_; refine tlm ?_; refine tv (o_ixP1 (a := a20) Tryz.underlying57 sz5 rfl rfl (by omega) (nn_rs (xs := bys zs) (by repeat (first | with_reducible exact rs_sl | apply Rs.left)) (by rw [bys_length]; omega))) ?_; refine tv (o_ldP (a := a20) (xs := bys zs) p5 rfl (by repeat (first | with_reducible exact rs_sl | apply Rs.left)) (bys_at hi)) ?_; refine tl_env (d := 34) (v := .int .u8 (y : Nat)) (by show Value.int .u8 ((zs[i] : Nat) : Int) = _; rw [hy]) ?_; refine tla ?_; refine tla ?_; refine nq ?_; refine tc_reg ?_; refine tlm ?_; refine tlm ?_; refine tv (by first | exact o_conv64 Tryz.underlying5 Tryz.underlying174 rfl | exact o_conv Tryz.underlying5 Tryz.underlying174 rfl) ?_; refine tlm ?_; refine tv (by first | exact o_mulI rfl rfl (by omega) | exact o_mul rfl rfl) ?_; refine tv (o_shl rfl rfl (by omega)) ?_; refine tv (o_or rfl rfl) ?_; refine tla ?_; refine tl_nil ?_; refine q_block_n (q_then_n ?_); refine tc_reg ?_; refine tv (by first | exact o_addI rfl rfl (by omega) | exact o_add rfl rfl) ?_; refine tlm ?_; refine nq ?_; exact ⟨_, by omega, i + 1, _, by omega, ⟨_, rfl⟩, rfl, rfl, rfl, rfl, rfl, (by repeat (first | with_reducible exact dr_refl | apply dr_keep | apply dr_drop))⟩
        · obtain ⟨z, rfl⟩ := hp1
          refine tc_exit ?_; refine q_then_e (q_then_e (q_block_x (q_then_n ?_))); refine sr ?_; refine tlm ?_; refine tla ?_; refine tla ?_; refine nq ?_; refine tc_ret ?_; exact ⟨_, _, res2 rfl rfl rfl, Dr.sat (by repeat (first | with_reducible exact dr_refl | apply dr_keep | apply dr_drop)), z, rfl, rfl⟩
theorem rising_c {A : SP} {b n : Nat} {M : MS} {g : Nat → Bool} (hm : Has A b (mpo .i64 M)) (hs : SF M n g) (hn : n ≤ 4194304 := by omega) :
    Fn Tryz.prog 76 #[.map (some b)] (A) (fun r B => ∃ a c, r = .slice a (adZ n g).length c ∧ (adZ n g).length ≤ c ∧ B = A * Sl 1 (.slice a (adZ n g).length c) (adZ n g).length (ints (adZ n g))) := by
  refine fn_enterW (args := [.map (some b)]) Tryz.func76 rfl Tryz.ntmps76 (by simp) ?_
  have hlen : M.D.length = (adZ n g).length := by rw [sf_len hs, adZ_len]
  have hsl := adS_len n g
  rw [← adZ_len] at hsl
  refine sr ?_; refine tla ?_; refine nq ?_; refine sr ?_; refine tlm ?_; refine tl_c rfl (o_call bd151 rfl (Keys_c)) ?_; rintro _ _ ⟨k4, rfl, rfl⟩; refine tl_c rfl (o_call bd150 rfl (Sorted_c (M := M) (hm := has_left hm) (hk := by first | exact has_here | exact has_pt) (hw := hs.wf) (hb := sf_bd hs hn) (hl := by omega))) ?_; rintro _ _ ⟨a5, c5, rfl, hc5, rfl⟩
  rw [sf_sort hs, hlen]
  rw [hlen] at hc5
  refine tla ?_; refine nq ?_; refine tc_ret ?_; exact ⟨_, _, res1 rfl rfl, Dr.sat (by repeat (first | with_reducible exact dr_refl | apply dr_keep | apply dr_drop)), a5, c5, rfl, hc5, rfl⟩
theorem Taken13_c {A R : SP} {C : SP → SP} {X : WkX} {Y : WkY} {T : WkT} {s : DevS} (hc : Ct A (WkA X Y s) R C := by repeat (first | with_reducible exact ct_here | apply ct_left)) (hok : WkOk X Y T (s.ls.length * 64)) (hb : WkB X s) (ho : s.off = false := by assumption) :
    Fn Tryz.prog 19 #[.pointer (some ⟨X.w, 0, none⟩)] (A) (fun r B => ∃ a c, r = .slice a (adZ X.n T.tk).length c ∧ (adZ X.n T.tk).length ≤ c ∧ B = A * Sl 1 (.slice a (adZ X.n T.tk).length c) (adZ X.n T.tk).length (ints (adZ X.n T.tk))) := by
  refine fn_enterW (args := [.pointer (some ⟨X.w, 0, none⟩)]) Tryz.func19 rfl Tryz.ntmps19 (by simp) ?_
  have hw9 := wka_w hc
  have hh9 := wka_h hc
  have hl9 := wka_lv hc
  have ht9 := wka_tk hc
  have hg9 := wka_gv hc
  have hB := hb
  obtain ⟨hb1, hb2, hb3⟩ := hB
  refine sr ?_; refine tla ?_; refine nq ?_; refine tc_seq ?_; refine sr ?_; refine tlm ?_; refine tl_c rfl (o_call bd75 rfl (there13_c (hw := hw9))) ?_; rintro _ _ ⟨rfl, rfl⟩; refine tv (o_not rfl) ?_; refine tlm ?_; refine tl_bool (d := 6) rfl (fun h => ?_) (fun h => ?_)
  · exfalso; simp at h
  · try simp only [lv1, lv2, lv3, lv4, lv5, lv6, Bool.not_true, Bool.not_false] at h
    refine tlm ?_; refine tv (o_nilCheck rfl) ?_; refine tv (o_fieldAddr (o := 5) Tryz.underlying66 rfl rfl sz4 rfl) ?_; refine tv (o_load p4 rfl hw9 rfl) ?_; refine tv (o_pick_f rfl (by conv => lhs; whnf)) ?_; refine nq ?_; refine tc_cond rfl (fun h => ?_) (fun h => ?_)
    · exfalso; simp at h
    · try simp only [lv1, lv2, lv3, lv4, lv5, lv6, Bool.not_true, Bool.not_false] at h
      refine tc_skip ?_; refine q_then_n ?_; refine sr ?_; refine tlm ?_; refine tv (o_nilCheck rfl) ?_; refine tv (o_fieldAddr (o := 2) Tryz.underlying66 rfl rfl sz64 rfl) ?_; refine tv (o_load p64 rfl hw9 rfl) ?_; refine tl_c rfl (o_call bd76 rfl (rising_c (M := Y.Mt) (g := T.tk) (hm := ht9) (hs := hok.t))) ?_; rintro _ _ ⟨a16, c16, rfl, hc16, rfl⟩; refine tla ?_; refine nq ?_; refine tc_ret ?_; exact ⟨_, _, res1 rfl rfl, Dr.sat (by repeat (first | with_reducible exact dr_refl | apply dr_keep | apply dr_drop)), a16, c16, rfl, hc16, rfl⟩
theorem Given13_c {A R : SP} {C : SP → SP} {X : WkX} {Y : WkY} {T : WkT} {s : DevS} (hc : Ct A (WkA X Y s) R C := by repeat (first | with_reducible exact ct_here | apply ct_left)) (hok : WkOk X Y T (s.ls.length * 64)) (hb : WkB X s) (ho : s.off = false := by assumption) :
    Fn Tryz.prog 20 #[.pointer (some ⟨X.w, 0, none⟩)] (A) (fun r B => ∃ a c, r = .slice a (adZ X.n T.gv).length c ∧ (adZ X.n T.gv).length ≤ c ∧ B = A * Sl 1 (.slice a (adZ X.n T.gv).length c) (adZ X.n T.gv).length (ints (adZ X.n T.gv))) := by
  refine fn_enterW (args := [.pointer (some ⟨X.w, 0, none⟩)]) Tryz.func20 rfl Tryz.ntmps20 (by simp) ?_
  have hw9 := wka_w hc
  have hh9 := wka_h hc
  have hl9 := wka_lv hc
  have ht9 := wka_tk hc
  have hg9 := wka_gv hc
  have hB := hb
  obtain ⟨hb1, hb2, hb3⟩ := hB
  refine sr ?_; refine tla ?_; refine nq ?_; refine tc_seq ?_; refine sr ?_; refine tlm ?_; refine tl_c rfl (o_call bd75 rfl (there13_c (hw := hw9))) ?_; rintro _ _ ⟨rfl, rfl⟩; refine tv (o_not rfl) ?_; refine tlm ?_; refine tl_bool (d := 6) rfl (fun h => ?_) (fun h => ?_)
  · exfalso; simp at h
  · try simp only [lv1, lv2, lv3, lv4, lv5, lv6, Bool.not_true, Bool.not_false] at h
    refine tlm ?_; refine tv (o_nilCheck rfl) ?_; refine tv (o_fieldAddr (o := 5) Tryz.underlying66 rfl rfl sz4 rfl) ?_; refine tv (o_load p4 rfl hw9 rfl) ?_; refine tv (o_pick_f rfl (by conv => lhs; whnf)) ?_; refine nq ?_; refine tc_cond rfl (fun h => ?_) (fun h => ?_)
    · exfalso; simp at h
    · try simp only [lv1, lv2, lv3, lv4, lv5, lv6, Bool.not_true, Bool.not_false] at h
      refine tc_skip ?_; refine q_then_n ?_; refine sr ?_; refine tlm ?_; refine tv (o_nilCheck rfl) ?_; refine tv (o_fieldAddr (o := 3) Tryz.underlying66 rfl rfl sz64 rfl) ?_; refine tv (o_load p64 rfl hw9 rfl) ?_; refine tl_c rfl (o_call bd76 rfl (rising_c (M := Y.Mg) (g := T.gv) (hm := hg9) (hs := hok.g))) ?_; rintro _ _ ⟨a16, c16, rfl, hc16, rfl⟩; refine tla ?_; refine nq ?_; refine tc_ret ?_; exact ⟨_, _, res1 rfl rfl, Dr.sat (by repeat (first | with_reducible exact dr_refl | apply dr_keep | apply dr_drop)), a16, c16, rfl, hc16, rfl⟩
end Go.Vl

namespace Go.Vl
open Go Go.Proofs
/-- Is a number on a list? -/
def onL (zs : List Nat) : Nat → Bool := fun c => decide (c ∈ zs)
theorem onL_nil : onL [] = g0 := by funext c; simp [onL, g0]
theorem onL_snoc (zs : List Nat) (x : Nat) : onL (zs ++ [x]) = updG (onL zs) x true := by
  funext c; unfold onL updG
  by_cases h : c = x
  · rw [if_pos h, h]; simp
  · rw [if_neg h]; simp [h]
def natI (zs : List Nat) : List Int := zs.map fun a : Nat => (a : Int)
theorem natI_len (zs : List Nat) : (natI zs).length = zs.length := by simp [natI]
theorem natI_at {zs : List Nat} {i : Nat} (h : i < zs.length) : (ints (natI zs))[i]? = some (.int .i64 ((zs[i] : Nat) : Int)) := by
  unfold ints natI; rw [List.getElem?_map, List.getElem?_map, List.getElem?_eq_getElem h]; rfl
theorem nodup_at {zs : List Nat} (h : zs.Nodup) {i : Nat} (hi : i < zs.length) : onL (zs.take i) zs[i] = false := by
  unfold onL
  rw [decide_eq_false]
  intro hm
  obtain ⟨j, hj, e⟩ := List.mem_iff_getElem.1 hm
  rw [List.length_take] at hj
  rw [List.getElem_take] at e
  exact List.pairwise_iff_getElem.1 h j i (by omega) hi (by omega) e
attribute [local irreducible] crk crL crc Sl pt ro Dev imgS recS readS recsF rdW rdO rkT Parts rvl recordsS runsL adrF kcl xcl kys runA runsF layF ovF TxA adZ WkA
theorem NewH_c {A R : SP} {C : SP → SP} {d : Nat} {s : DevS} (hc : Ct A (Dev d s) R C := by repeat (first | with_reducible exact ct_here | apply ct_left)) {p lg : Nat} {ov : Option Nat} (hp : Has A p (cl (pocs lg d ov) 110) := by (repeat (first | assumption | with_reducible exact has_here | with_reducible exact has_pt | apply has_left))) {ba n : Nat} (h64 : ba % 64 = 0) (h1 : 128 ≤ ba) (h2 : ba + 256 * n ≤ s.ls.length * 64) (htop : s.ls.length * 64 ≤ 4194304) (hpos : 0 < s.ls.length) :
    Fn Tryz.prog 78 #[.pointer (some ⟨p, 0, none⟩), .int .i64 (ba : Nat), .int .i64 (n : Nat)] (A) (fun r B => ∃ lv hd, r = .tuple #[.pointer (some ⟨hd, 0, none⟩), .int .i64 0] ∧ B = A * pt lv (mpo .i64 ⟨[], 0⟩) * pt hd (cl (hcs p ba n lv none) 210)) := by
  refine fn_enterW (args := [.pointer (some ⟨p, 0, none⟩), .int .i64 (ba : Nat), .int .i64 (n : Nat)]) Tryz.func78 rfl Tryz.ntmps78 (by simp) ?_; refine sr ?_; refine tla ?_; refine tla ?_; refine nq ?_; refine tc_seq ?_; refine sr ?_; refine tlm ?_; refine tl_c rfl (o_call bd45 rfl (Size12_c (hc := hc) (hp := hp))) ?_; rintro _ _ ⟨rfl, rfl⟩; refine tv (o_eqi rfl rfl) ?_; refine nq ?_; refine tc_cond rfl (fun h => ?_) (fun h => ?_)
  · exfalso; first | (have h9 := of_decide_eq_true h; omega) | (simp at h; omega)
  · try simp only [lv1, lv2, lv3, lv4, lv5, lv6, Bool.not_true, Bool.not_false] at h
    refine tc_skip ?_; refine q_then_n ?_; refine tc_seq ?_; refine sr ?_; refine tlm ?_; refine tv (o_remI rfl rfl (by omega)) ?_; refine tv (o_nei rfl rfl) ?_; refine tlm ?_; refine tl_bool (d := 14) rfl (fun h => ?_) (fun h => ?_)
    · exfalso; first | (have h9 := of_decide_eq_true h; omega) | (simp at h; omega)
    · try simp only [lv1, lv2, lv3, lv4, lv5, lv6, Bool.not_true, Bool.not_false] at h
      refine tlm ?_; refine tv (o_lss rfl rfl) ?_; refine tv (o_pick_f rfl (by conv => lhs; whnf)) ?_; refine tlm ?_; refine tl_bool (d := 18) rfl (fun h => ?_) (fun h => ?_)
      · exfalso; first | (simp at h; done) | (simp at h; omega)
      · try simp only [lv1, lv2, lv3, lv4, lv5, lv6, Bool.not_true, Bool.not_false] at h
        refine tlm ?_; refine tv (o_lss rfl rfl) ?_; refine tv (o_pick_f rfl (by conv => lhs; whnf)) ?_; refine tlm ?_; refine tl_bool (d := 22) rfl (fun h => ?_) (fun h => ?_)
        · exfalso; first | (simp at h; done) | (simp at h; omega)
        · try simp only [lv1, lv2, lv3, lv4, lv5, lv6, Bool.not_true, Bool.not_false] at h
          refine tlm ?_; refine tlm ?_; refine tl_c rfl (o_call bd45 rfl (Size12_c (hc := hc) (hp := hp))) ?_; rintro _ _ ⟨rfl, rfl⟩; refine tv (o_gtr rfl rfl) ?_; refine tv (o_pick_f rfl (by conv => lhs; whnf)) ?_; refine tlm ?_; refine tl_bool (d := 28) rfl (fun h => ?_) (fun h => ?_)
          · exfalso; first | (simp at h; done) | (simp at h; omega)
          · try simp only [lv1, lv2, lv3, lv4, lv5, lv6, Bool.not_true, Bool.not_false] at h
            refine tlm ?_; refine tlm ?_; refine tl_c rfl (o_call bd45 rfl (Size12_c (hc := hc) (hp := hp))) ?_; rintro _ _ ⟨rfl, rfl⟩; refine tlm ?_; refine tv (o_subI rfl rfl (by omega)) ?_; refine tv (o_quoI rfl rfl (by omega)) ?_; refine tv (o_gtr rfl rfl) ?_; refine tv (o_pick_f rfl (by conv => lhs; whnf)) ?_; refine nq ?_; refine tc_cond rfl (fun h => ?_) (fun h => ?_)
            · exfalso; first | (have h9 := of_decide_eq_true h; omega) | (simp at h; omega)
            · try simp only [lv1, lv2, lv3, lv4, lv5, lv6, Bool.not_true, Bool.not_false] at h
              refine tc_skip ?_; refine q_then_n ?_; refine sr ?_; refine tlm ?_; refine tlm ?_; refine tlm ?_; refine tl_x rfl (o_makeMap (ik := .i64) Tryz.underlying64) ?_; rintro _ _ ⟨b40, rfl, rfl⟩; refine tv (o_bS (l := [_, _, _, _, _]) (pv_cons (by conv => lhs; whnf) (pv_cons (by conv => lhs; whnf) (pv_cons (by conv => lhs; whnf) (pv_cons (by conv => lhs; whnf) pv_nil)))) Tryz.underlying210 z210 (pl210 Tryz.underlying210) rfl) ?_; refine tl_x rfl (o_box rfl rfl) ?_; rintro _ _ ⟨b42, rfl, rfl⟩; refine tla ?_; refine tla ?_; refine nq ?_; refine tc_ret ?_; exact ⟨_, _, res2 rfl rfl rfl, Dr.sat (by repeat (first | with_reducible exact dr_refl | apply dr_keep | apply dr_drop)), b40, b42, rfl, rfl⟩
theorem LoadH_c {A R : SP} {hd p ba n lv m c : Nat} {a : Option Addr} {zs : List Nat} (hA : A = R * pt hd (cl (hcs p ba n lv none) 210)) (hr : Rs R a (ints (natI zs))) (hm : zs.length = m) (hnd : zs.Nodup) (hz : ∀ x ∈ zs, x < n) (hn : n ≤ 4194304) (hml : m ≤ 4194304) :
    Fn Tryz.prog 79 #[.pointer (some ⟨hd, 0, none⟩), .slice a m c] (A) (fun r B => ∃ l2 M2, r = .int .i64 0 ∧ SF M2 n (onL zs) ∧ B = R * pt hd (cl (hcs p ba n l2 none) 210) * pt l2 (mpo .i64 M2)) := by
  refine fn_enterW (args := [.pointer (some ⟨hd, 0, none⟩), .slice a m c]) Tryz.func79 rfl Tryz.ntmps79 (by simp) ?_
  subst hA
  refine sr ?_; refine tla ?_; refine nq ?_; refine tc_seq ?_; refine sr ?_; refine tlm ?_; refine tl_c rfl (o_call bd152 rfl (thereH_c)) ?_; rintro _ _ ⟨rfl, rfl⟩; refine tv (o_not rfl) ?_; refine nq ?_; refine tc_cond rfl (fun h => ?_) (fun h => ?_)
  · exfalso; simp at h
  · try simp only [lv1, lv2, lv3, lv4, lv5, lv6, Bool.not_true, Bool.not_false] at h
    refine tc_skip ?_; refine q_then_n ?_; refine tc_seq ?_; refine sr ?_; refine tlm ?_; refine tv (o_nilCheck rfl) ?_; refine tv (o_fieldAddr (o := 4) Tryz.underlying210 rfl rfl sz28 rfl) ?_; refine tv (o_load p28 rfl (by repeat (first | with_reducible exact has_here | with_reducible exact has_pt | apply has_left)) rfl) ?_; refine tv (o_nep Tryz.underlying28 rfl rfl) ?_; refine nq ?_; refine tc_cond rfl (fun h => ?_) (fun h => ?_)
    · exfalso; simp at h
    · try simp only [lv1, lv2, lv3, lv4, lv5, lv6, Bool.not_true, Bool.not_false] at h
      refine tc_skip ?_; refine q_then_n ?_; refine sr ?_; refine tl_x rfl (o_makeMap (ik := .i64) Tryz.underlying64) ?_; rintro _ _ ⟨l2, rfl, rfl⟩; refine tla ?_; refine nq ?_; refine tc_seq ?_; refine sr ?_; refine tlm ?_; refine tv (o_len Tryz.underlying26 rfl) ?_; refine tlm ?_; refine nq ?_; refine tc_block ?_; refine tc_loop (fun kk ρ BB => ∃ (i : Nat) (M2 : MS), (i ≤ m) ∧ (SF M2 n (onL (zs.take i))) ∧ kk = m - i ∧ ρ 19 = .int .i64 (i : Nat) ∧ ρ 0 = .pointer (some ⟨hd, 0, none⟩) ∧ ρ 5 = .map (some l2) ∧ ρ 17 = .slice a m c ∧ ρ 18 = .int .i64 (m : Nat) ∧ Dr BB (R * pt hd (cl (hcs p ba n lv none) 210) * pt l2 (mpo .i64 M2))) (m := m - (0)) ?_ ?_
      · exact ⟨0, ⟨[], 0⟩, by omega, by rw [List.take_zero, onL_nil]; exact sf_nil 0 n, rfl, rfl, rfl, rfl, rfl, rfl, (by repeat (first | with_reducible exact dr_refl | apply dr_keep | apply dr_drop))⟩
      · intro k ρ B hI
        obtain ⟨i, M2, hp0, hp1, hkk1, hE19, hE0, hE5, hE17, hE18, hBA⟩ := hI
        refine tc_pre hBA.sat ?_
        clear hBA
        refine tc_env (d := 19) hE19 ?_; refine tc_env (d := 0) hE0 ?_; refine tc_env (d := 5) hE5 ?_; refine tc_env (d := 17) hE17 ?_; refine tc_env (d := 18) hE18 ?_
        clear hE19 hE0 hE5 hE17 hE18
        refine sr ?_; refine tv (o_lss rfl rfl) ?_; refine nq ?_; refine tc_seq ?_; refine tc_cond rfl (fun h => ?_) (fun h => ?_)
        · have hi : i < zs.length := by first | omega | (simp at h; omega)
          obtain ⟨x, hx1⟩ : ∃ x, zs[i] = x := ⟨_, rfl⟩
          have hxn : x < n := hx1 ▸ hz _ (List.getElem_mem hi)
          have hxo : onL (zs.take i) x = false := hx1 ▸ nodup_at hnd hi
          refine tc_skip ?_; refine q_then_n ?_; refine tc_seq ?_; refine tc_block ?_; refine sr ?_; refine tv (o_ixP1 (a := a) Tryz.underlying26 sz3 rfl rfl (by omega) (nn_rs (xs := ints (natI zs)) (by repeat (first | exact hr | apply Rs.left)) (by rw [ints_length, natI_len]; omega))) ?_; refine tv (o_ldP (a := a) (xs := ints (natI zs)) p3 rfl (by repeat (first | exact hr | apply Rs.left)) (natI_at hi)) ?_; refine tl_env (d := 22) (v := .int .i64 (x : Nat)) (by show Value.int .i64 ((zs[i] : Nat) : Int) = _; rw [hx1]) ?_; refine tla ?_; refine nq ?_; refine tc_seq ?_; refine sr ?_; refine tlm ?_; refine tv (o_lss rfl rfl) ?_; refine tlm ?_; refine tl_bool (d := 25) rfl (fun h => ?_) (fun h => ?_)
          · exfalso; first | (simp at h; done) | (simp at h; omega)
          · try simp only [lv1, lv2, lv3, lv4, lv5, lv6, Bool.not_true, Bool.not_false] at h
            refine tlm ?_; refine tlm ?_; refine tv (o_nilCheck rfl) ?_; refine tv (o_fieldAddr (o := 2) Tryz.underlying210 rfl rfl sz3 rfl) ?_; refine tv (o_load p3 rfl (by repeat (first | with_reducible exact has_here | with_reducible exact has_pt | apply has_left)) rfl) ?_; refine tv (o_geq rfl rfl) ?_; refine tv (o_pick_f rfl (by conv => lhs; whnf)) ?_; refine tlm ?_; refine tl_bool (d := 33) rfl (fun h => ?_) (fun h => ?_)
            · exfalso; first | (simp at h; done) | (simp at h; omega)
            · try simp only [lv1, lv2, lv3, lv4, lv5, lv6, Bool.not_true, Bool.not_false] at h
              refine tlm ?_; refine tlm ?_; refine tv (o_lookup (ik := .i64) (M := M2) Tryz.underlying64 Tryz.underlying3 z4 rfl rfl (by repeat (first | with_reducible exact has_here | with_reducible exact has_pt | apply has_left))) ?_; refine tl_env (d := 36) (v := .bool false) (by show (M2.get (x : Int)).getD _ = _; rw [mapV M2 (x : Int) hp1]; simp [hxo]) ?_; refine tv (o_pick_f rfl (by conv => lhs; whnf)) ?_; refine nq ?_; refine tc_cond rfl (fun h => ?_) (fun h => ?_)
              · exfalso; simp at h
              · try simp only [lv1, lv2, lv3, lv4, lv5, lv6, Bool.not_true, Bool.not_false] at h
                refine tc_skip ?_; refine q_then_n ?_; refine tc_reg ?_; refine tlm ?_; refine tlm ?_; refine tl_u rfl (o_mapUpdate (ik := .i64) (M := M2) (v := .bool true) Tryz.underlying64 Tryz.underlying3 rfl (by repeat (first | with_reducible exact upd_here | with_reducible exact upd_pt | apply upd_left)) rfl rfl rfl) ?_; refine tl_nil ?_; refine q_block_n (q_then_n ?_); refine tc_reg ?_; refine tv (by first | exact o_addI rfl rfl (by omega) | exact o_add rfl rfl) ?_; refine tlm ?_; refine nq ?_; exact ⟨_, by omega, i + 1, _, by omega, by rw [List.take_succ_eq_append_getElem hi, onL_snoc, hx1]; exact sf_put hp1 hxn, rfl, rfl, rfl, rfl, rfl, rfl, (by repeat (first | with_reducible exact dr_refl | apply dr_keep | apply dr_drop))⟩
        · obtain rfl : i = m := by first | omega | (simp at h; omega)
          rw [List.take_of_length_le (by omega)] at hp1
          refine tc_exit ?_; refine q_then_e (q_then_e (q_block_x (q_then_n ?_))); refine sr ?_; refine tlm ?_; refine tlm ?_; refine tv (o_nilCheck rfl) ?_; refine tv (o_fieldAddr (o := 3) Tryz.underlying210 rfl rfl sz64 rfl) ?_; refine tl_u rfl (o_stU (l' := hcs p ba n l2 none) rfl (by repeat (first | with_reducible exact upd_here | with_reducible exact upd_pt | apply upd_left)) sz64 rfl rfl (by show 3 < 5; decide) rfl) ?_; refine nq ?_; refine sr ?_; refine tla ?_; refine nq ?_; refine tc_ret ?_; exact ⟨.int .i64 0, _, res1 rfl rfl, Dr.sat (by repeat (first | with_reducible exact dr_refl | apply dr_keep | apply dr_drop)), l2, M2, rfl, hp1, rfl⟩
theorem BeginH_c {A R : SP} {hd p ba n lv lg d at_ sz : Nat} {s : DevS} (hA : A = R * pt hd (cl (hcs p ba n lv none) 210) * pt p (cl (pocs lg d none) 110) * pt lg (cl (lcs11 d at_ sz) 99) * Dev d s) (hlw : LogW (s.ls.length * 64) at_ sz) (ho : s.off = false) (hst : stpS at_ sz s = 0) :
    Fn Tryz.prog 155 #[.pointer (some ⟨hd, 0, none⟩)] (A) (fun r B => ∃ w t mb tk gv, r = .tuple #[.pointer (some ⟨w, 0, none⟩), .int .i64 0] ∧ B = R * pt hd (cl (hcs p ba n lv (some w)) 210) * TxA t p lg d mb at_ sz ⟨[], 0⟩ false s * pt tk (mpo .i64 ⟨[], 0⟩) * pt gv (mpo .i64 ⟨[], 0⟩) * pt w (cl (wcs hd t tk gv 0 false) 66)) := by
  refine fn_enterW (args := [.pointer (some ⟨hd, 0, none⟩)]) Tryz.func155 rfl Tryz.ntmps155 (by simp) ?_
  subst hA
  refine sr ?_; refine tla ?_; refine tla ?_; refine nq ?_; refine tc_seq ?_; refine sr ?_; refine tlm ?_; refine tl_c rfl (o_call bd152 rfl (thereH_c)) ?_; rintro _ _ ⟨rfl, rfl⟩; refine tv (o_not rfl) ?_; refine nq ?_; refine tc_cond rfl (fun h => ?_) (fun h => ?_)
  · exfalso; simp at h
  · try simp only [lv1, lv2, lv3, lv4, lv5, lv6, Bool.not_true, Bool.not_false] at h
    refine tc_skip ?_; refine q_then_n ?_; refine sr ?_; refine tlm ?_; refine tv (o_nilCheck rfl) ?_; refine tv (o_fieldAddr (o := 0) Tryz.underlying210 rfl rfl sz69 rfl) ?_; refine tv (o_load p69 rfl (by repeat (first | with_reducible exact has_here | with_reducible exact has_pt | apply has_left)) rfl) ?_; refine tl_c rfl (o_call bd42 rfl (Begin12_ok (C := fun Y => Y) (R := R * pt hd (cl (hcs p ba n lv none) 210)) (s := s) (at_ := at_) (sz := sz) (p := p) (lg := lg) (d := d) (hA := by ac_rfl) (hlw := hlw) (ho := ho) (hst := hst))) ?_; rintro _ _ ⟨t, mb, rfl, rfl⟩; refine tlm ?_; refine tv (o_extract rfl rfl) ?_; refine tv (o_extract rfl rfl) ?_; refine tla ?_; refine tla ?_; refine nq ?_; refine tc_seq ?_; refine sr ?_; refine tlm ?_; refine tv (o_nei rfl rfl) ?_; refine nq ?_; refine tc_cond rfl (fun h => ?_) (fun h => ?_)
    · exfalso; simp at h
    · try simp only [lv1, lv2, lv3, lv4, lv5, lv6, Bool.not_true, Bool.not_false] at h
      refine tc_skip ?_; refine q_then_n ?_; refine sr ?_; refine tlm ?_; refine tlm ?_; refine tlm ?_; refine tl_x rfl (o_makeMap (ik := .i64) Tryz.underlying64) ?_; rintro _ _ ⟨tk, rfl, rfl⟩; refine tl_x rfl (o_makeMap (ik := .i64) Tryz.underlying64) ?_; rintro _ _ ⟨gv, rfl, rfl⟩; refine tv (o_bS (l := [_, _, _, _, _, _]) (pv_cons (by conv => lhs; whnf) (pv_cons (by conv => lhs; whnf) (pv_cons (by conv => lhs; whnf) (pv_cons (by conv => lhs; whnf) pv_nil)))) Tryz.underlying66 z66 (pl66 Tryz.underlying66) rfl) ?_; refine tl_x rfl (o_box rfl rfl) ?_; rintro _ _ ⟨b26, rfl, rfl⟩; refine tv (o_nilCheck rfl) ?_; refine tv (o_fieldAddr (o := 4) Tryz.underlying210 rfl rfl sz28 rfl) ?_; refine tl_u rfl (o_stU (l' := hcs p ba n lv (some b26)) rfl (by repeat (first | with_reducible exact upd_here | with_reducible exact upd_pt | apply upd_left)) sz28 rfl rfl (by show 4 < 5; decide) rfl) ?_; refine nq ?_; refine sr ?_; refine tlm ?_; refine tv (o_nilCheck rfl) ?_; refine tv (o_fieldAddr (o := 4) Tryz.underlying210 rfl rfl sz28 rfl) ?_; refine tv (o_load p28 rfl (by repeat (first | with_reducible exact has_here | with_reducible exact has_pt | apply has_left)) rfl) ?_; refine tla ?_; refine tla ?_; refine nq ?_; refine tc_ret ?_; exact ⟨_, _, res2 rfl rfl rfl, Dr.sat (by repeat (first | with_reducible exact dr_refl | apply dr_keep | apply dr_drop)), b26, t, mb, tk, gv, rfl, rfl⟩
end Go.Vl

namespace Go.Vl
open Go Go.Proofs
/-- How many blocks n bytes take. -/
def nblk (n : Nat) : Nat := if n % 248 = 0 then n / 248 else n / 248 + 1
/-- A blob block. -/
def blkS (next : Nat) (xs : List Nat) : List Nat := le 4 next ++ le 2 xs.length ++ le 2 0 ++ xs ++ List.replicate (248 - xs.length) 0
theorem blkS_len {next : Nat} {xs : List Nat} (h : xs.length ≤ 248) : (blkS next xs).length = 256 := by
  unfold blkS; simp only [List.length_append, le_length, List.length_replicate]; omega
theorem blkS_bytes {next : Nat} {xs : List Nat} (h : ∀ x ∈ xs, x < 256) : ∀ x ∈ blkS next xs, x < 256 := fun x hx => by
  unfold blkS at hx
  rcases List.mem_append.1 hx with h1 | h1
  · rcases List.mem_append.1 h1 with h2 | h2
    · rcases List.mem_append.1 h2 with h3 | h3
      · rcases List.mem_append.1 h3 with h4 | h4
        · exact le_bytes _ _ _ h4
        · exact le_bytes _ _ _ h4
      · exact le_bytes _ _ _ h3
    · exact h x h2
  · rw [(List.mem_replicate.1 h1).2]; decide
theorem blkS_next {next : Nat} {xs : List Nat} (h : next < 4294967296) : nm ((blkS next xs).take 4) = next := by
  have : (blkS next xs).take 4 = le 4 next := by
    unfold blkS
    rw [List.append_assoc, List.append_assoc, List.append_assoc]
    exact List.take_left' (le_length _ _)
  rw [this, nm_le]; exact Nat.mod_eq_of_lt h
theorem blkS_n {next : Nat} {xs : List Nat} (h : xs.length < 65536) : nm (((blkS next xs).drop 4).take 2) = xs.length := by
  have : ((blkS next xs).drop 4).take 2 = le 2 xs.length := by
    unfold blkS
    rw [List.append_assoc, List.append_assoc, List.append_assoc, List.drop_left' (le_length _ _)]
    exact List.take_left' (le_length _ _)
  rw [this, nm_le]; exact Nat.mod_eq_of_lt h
theorem blkS_data {next : Nat} {xs : List Nat} : ((blkS next xs).drop 8).take xs.length = xs := by
  have : (blkS next xs).drop 8 = xs ++ List.replicate (248 - xs.length) 0 := by
    unfold blkS
    rw [List.append_assoc]
    exact List.drop_left' (by simp only [List.length_append, le_length])
  rw [this]; exact List.take_left' rfl
/-- A link: a block's number, its data, an error. -/
abbrev Lk := Nat × List Nat × Int
/-- What a block of a chain says: u: the blocks in use, c: what they hold. -/
def lnkS (u : Nat → Bool) (c : Nat → List Nat) (ref : Nat) : Lk × Nat :=
  if 1 ≤ ref ∧ u (ref - 1) = true then
    if 1 ≤ nm (((c (ref - 1)).drop 4).take 2) ∧ nm (((c (ref - 1)).drop 4).take 2) ≤ 248 ∧ (nm ((c (ref - 1)).take 4) = 0 ∨ nm (((c (ref - 1)).drop 4).take 2) = 248) ∧
        blkS (nm ((c (ref - 1)).take 4)) (((c (ref - 1)).drop 8).take (nm (((c (ref - 1)).drop 4).take 2))) = c (ref - 1) then
      ((ref - 1, ((c (ref - 1)).drop 8).take (nm (((c (ref - 1)).drop 4).take 2)), 0), nm ((c (ref - 1)).take 4))
    else ((0, [], 140), 0)
  else ((0, [], 140), 0)
/-- The link at a place of a chain, m bytes behind its begin. -/
def cutL (m : Nat) (l : Lk) : Lk := if 65536 < m + l.2.1.length then (0, [], 140) else l
/-- A chain's links, as long as they are good; k: how many at most. -/
def chL (f : Nat → Lk × Nat) : Nat → Nat → Nat → List Lk
  | 0, _, _ => []
  | k + 1, ref, m => if ref = 0 then [] else if (cutL m (f ref).1).2.2 ≠ 0 then [cutL m (f ref).1] else cutL m (f ref).1 :: chL f k (f ref).2 (m + (f ref).1.2.1.length)
/-- A blob's text, its blocks, an error. -/
def whL (l : List Lk) : List Nat × List Nat × Int := if l.all (fun x => decide (x.2.2 = 0)) then (l.flatMap (·.2.1), l.map (·.1), 0) else ([], [], 140)
def whS (u : Nat → Bool) (c : Nat → List Nat) (ref : Nat) : List Nat × List Nat × Int := whL (chL (lnkS u c) 65538 ref 0)
/-- A chain. -/
inductive Chn (u : Nat → Bool) (c : Nat → List Nat) : Nat → List Nat → List Nat → Prop
  | nil : Chn u c 0 [] []
  | cons {b next : Nat} {d t l : List Nat} (hu : u b = true) (hc : c b = blkS next d) (h1 : 1 ≤ d.length) (h2 : d.length ≤ 248) (h3 : next = 0 ∨ d.length = 248) (hn : next < 4294967296) (h : Chn u c next t l) : Chn u c (b + 1) (d ++ t) (b :: l)
theorem lnk_cases (u : Nat → Bool) (c : Nat → List Nat) (ref : Nat) (hr : ref ≠ 0) (hb : ∀ b, u b = true → ∀ x ∈ c b, x < 256) : (lnkS u c ref = ((0, [], 140), 0)) ∨
    ∃ b next d, ref = b + 1 ∧ u b = true ∧ c b = blkS next d ∧ 1 ≤ d.length ∧ d.length ≤ 248 ∧ (next = 0 ∨ d.length = 248) ∧ next < 4294967296 ∧ lnkS u c ref = ((b, d, 0), next) := by
  unfold lnkS
  by_cases h1 : 1 ≤ ref ∧ u (ref - 1) = true
  · rw [if_pos h1]
    by_cases h2 : 1 ≤ nm (((c (ref - 1)).drop 4).take 2) ∧ nm (((c (ref - 1)).drop 4).take 2) ≤ 248 ∧ (nm ((c (ref - 1)).take 4) = 0 ∨ nm (((c (ref - 1)).drop 4).take 2) = 248) ∧
        blkS (nm ((c (ref - 1)).take 4)) (((c (ref - 1)).drop 8).take (nm (((c (ref - 1)).drop 4).take 2))) = c (ref - 1)
    · rw [if_pos h2]
      obtain ⟨a1, a2, a3, a4⟩ := h2
      obtain ⟨bs, hbs⟩ : ∃ bs, c (ref - 1) = bs := ⟨_, rfl⟩
      have hB := hb _ h1.2
      rw [hbs] at a1 a2 a3 a4 hB ⊢
      have hl : bs.length = 256 := by
        rw [← a4]; exact blkS_len (Nat.le_trans (List.length_take_le _ _) a2)
      have hdl : ((bs.drop 8).take (nm ((bs.drop 4).take 2))).length = nm ((bs.drop 4).take 2) := by rw [List.length_take, List.length_drop]; omega
      have hn : nm (bs.take 4) < 4294967296 := by
        have h4 : (bs.take 4).length = 4 := by rw [List.length_take]; omega
        have := nm_lt (bs.take 4) fun x hx => hB x (List.mem_of_mem_take hx)
        rw [h4] at this; exact this
      exact .inr ⟨ref - 1, nm (bs.take 4), _, by omega, h1.2, by rw [hbs]; exact a4.symm, by rw [hdl]; exact a1, by rw [hdl]; exact a2, by rw [hdl]; exact a3, hn, rfl⟩
    · rw [if_neg h2]; exact .inl rfl
  · rw [if_neg h1]; exact .inl rfl
theorem lnk_chn {u : Nat → Bool} {c : Nat → List Nat} {b next : Nat} {d : List Nat} (hu : u b = true) (hc : c b = blkS next d) (h1 : 1 ≤ d.length) (h2 : d.length ≤ 248) (h3 : next = 0 ∨ d.length = 248) (hn : next < 4294967296) : lnkS u c (b + 1) = ((b, d, 0), next) := by
  have e1 : nm ((c b).take 4) = next := by rw [hc]; exact blkS_next hn
  have e2 : nm (((c b).drop 4).take 2) = d.length := by rw [hc]; exact blkS_n (by omega)
  have e3 : ((c b).drop 8).take d.length = d := by rw [hc]; exact blkS_data
  unfold lnkS
  rw [if_pos ⟨by omega, hu⟩]
  show (if _ then ((b, _, (0 : Int)), _) else _) = _
  rw [Nat.add_sub_cancel, e1, e2, e3, if_pos ⟨h1, h2, h3, hc.symm⟩]
theorem chn_ch {u : Nat → Bool} {c : Nat → List Nat} {ref : Nat} {t l : List Nat} (h : Chn u c ref t l) : ∀ k m, m + t.length ≤ 65536 → 65538 ≤ k + m →
    (chL (lnkS u c) k ref m).all (fun x => decide (x.2.2 = 0)) = true ∧ (chL (lnkS u c) k ref m).flatMap (·.2.1) = t ∧ (chL (lnkS u c) k ref m).map (·.1) = l := by
  induction h with
  | nil => intro k m _ hk; cases k <;> exact ⟨rfl, rfl, rfl⟩
  | @cons b next d t l hu hc h1 h2 h3 hn h ih =>
    intro k m hm hk
    rw [List.length_append] at hm
    obtain ⟨k', rfl⟩ : ∃ k', k = k' + 1 := ⟨k - 1, by omega⟩
    have e := lnk_chn hu hc h1 h2 h3 hn
    have ec : cutL m ((b, d, 0) : Lk) = (b, d, 0) := by unfold cutL; exact if_neg (by show ¬ 65536 < m + d.length; omega)
    have hch : chL (lnkS u c) (k' + 1) (b + 1) m = (b, d, 0) :: chL (lnkS u c) k' next (m + d.length) := by
      conv => lhs; unfold chL
      rw [if_neg (by omega), e]
      show (if (cutL m (b, d, 0)).2.2 ≠ 0 then _ else _) = _
      rw [ec]; exact if_neg (by simp)
    obtain ⟨i1, i2, i3⟩ := ih k' (m + d.length) (by omega) (by omega)
    rw [hch]
    refine ⟨?_, ?_, ?_⟩
    · rw [List.all_cons, i1]; rfl
    · rw [List.flatMap_cons, i2]
    · rw [List.map_cons, i3]
theorem chn_wh {u : Nat → Bool} {c : Nat → List Nat} {ref : Nat} {t l : List Nat} (h : Chn u c ref t l) (ht : t.length ≤ 65536) : whS u c ref = (t, l, 0) := by
  obtain ⟨i1, i2, i3⟩ := chn_ch h 65538 0 (by omega) (by omega)
  unfold whS whL
  rw [i1, i2, i3]; rfl
theorem ch_chn {u : Nat → Bool} {c : Nat → List Nat} (hb : ∀ b, u b = true → ∀ x ∈ c b, x < 256) : ∀ (k ref m : Nat), m ≤ 65536 → 65538 ≤ k + m → (chL (lnkS u c) k ref m).all (fun x => decide (x.2.2 = 0)) = true →
    Chn u c ref ((chL (lnkS u c) k ref m).flatMap (·.2.1)) ((chL (lnkS u c) k ref m).map (·.1)) ∧ m + ((chL (lnkS u c) k ref m).flatMap (·.2.1)).length ≤ 65536
  | 0, ref, m, hm, hk, _ => by omega
  | k + 1, ref, m, hm, hk, ha => by
    by_cases hr : ref = 0
    · have e : chL (lnkS u c) (k + 1) ref m = [] := by
        conv => lhs; unfold chL
        rw [if_pos hr]
      rw [e, hr]; exact ⟨.nil, hm⟩
    · by_cases hc : (cutL m (lnkS u c ref).1).2.2 ≠ 0
      · have e : chL (lnkS u c) (k + 1) ref m = [cutL m (lnkS u c ref).1] := by
          conv => lhs; unfold chL
          rw [if_neg hr, if_pos hc]
        rw [e, List.all_cons] at ha
        simp [hc] at ha
      · have e : chL (lnkS u c) (k + 1) ref m = cutL m (lnkS u c ref).1 :: chL (lnkS u c) k (lnkS u c ref).2 (m + (lnkS u c ref).1.2.1.length) := by
          conv => lhs; unfold chL
          rw [if_neg hr, if_neg hc]
        have hcut : ¬ 65536 < m + (lnkS u c ref).1.2.1.length := fun h9 => hc (by unfold cutL; rw [if_pos h9]; decide)
        have ecut : cutL m (lnkS u c ref).1 = (lnkS u c ref).1 := by unfold cutL; rw [if_neg hcut]
        rw [e, List.all_cons] at ha
        simp only [Bool.and_eq_true] at ha
        rcases lnk_cases u c ref hr hb with h0 | ⟨b, next, d, rfl, hu, hcb, h1, h2, h3, hn, el⟩
        · rw [ecut, h0] at hc; exact absurd (by decide) hc
        · rw [e, ecut, el]
          rw [el] at ha hcut
          have hcut' : m + d.length ≤ 65536 := by simpa using hcut
          obtain ⟨i1, i2⟩ := ch_chn hb k next (m + d.length) hcut' (by omega) ha.2
          refine ⟨?_, ?_⟩
          · rw [List.flatMap_cons, List.map_cons]; exact .cons hu hcb h1 h2 h3 hn i1
          · rw [List.flatMap_cons, List.length_append]
            have i2' : m + d.length + (List.flatMap (fun x => x.2.1) (chL (lnkS u c) k next (m + d.length))).length ≤ 65536 := i2
            exact show m + (d.length + (List.flatMap (fun x => x.2.1) (chL (lnkS u c) k next (m + d.length))).length) ≤ 65536 by omega
theorem wh_chn {u : Nat → Bool} {c : Nat → List Nat} {ref : Nat} {t l : List Nat} (hb : ∀ b, u b = true → ∀ x ∈ c b, x < 256) (h : whS u c ref = (t, l, 0)) : Chn u c ref t l ∧ t.length ≤ 65536 := by
  unfold whS whL at h
  by_cases ha : (chL (lnkS u c) 65538 ref 0).all (fun x => decide (x.2.2 = 0)) = true
  · rw [if_pos ha] at h
    obtain ⟨i1, i2⟩ := ch_chn hb 65538 ref 0 (by omega) (by omega) ha
    simp only [Prod.mk.injEq] at h
    obtain ⟨rfl, rfl, _⟩ := h
    exact ⟨i1, by omega⟩
  · rw [if_neg ha] at h; simp at h
theorem wh_cases (u : Nat → Bool) (c : Nat → List Nat) (ref : Nat) : (∃ t l, whS u c ref = (t, l, 0)) ∨ whS u c ref = ([], [], 140) := by
  unfold whS whL
  by_cases ha : (chL (lnkS u c) 65538 ref 0).all (fun x => decide (x.2.2 = 0)) = true
  · rw [if_pos ha]; exact .inl ⟨_, _, rfl⟩
  · rw [if_neg ha]; exact .inr rfl
theorem chn_det {u : Nat → Bool} {c : Nat → List Nat} {ref : Nat} {t l t' l' : List Nat} (h : Chn u c ref t l) (h' : Chn u c ref t' l') : t = t' ∧ l = l' := by
  induction h generalizing t' l' with
  | nil => cases h'; exact ⟨rfl, rfl⟩
  | @cons b next d t l hu hc h1 h2 h3 hn h ih =>
    cases h' with
    | @cons b next' d' t' l' hu' hc' h1' h2' h3' hn' h' =>
      have en : next = next' := by
        have := hc.symm.trans hc'
        rw [← blkS_next (xs := d) hn, this, blkS_next hn']
      have ed : d = d' := by
        have e := hc.symm.trans hc'
        have el : d.length = d'.length := by rw [← blkS_n (next := next) (xs := d) (by omega), e, blkS_n (by omega)]
        rw [← blkS_data (next := next) (xs := d), e, el, blkS_data]
      subst en; subst ed
      obtain ⟨rfl, rfl⟩ := ih h'
      exact ⟨rfl, rfl⟩
theorem chn_used {u : Nat → Bool} {c : Nat → List Nat} {ref : Nat} {t l : List Nat} (h : Chn u c ref t l) : ∀ b ∈ l, u b = true := by
  induction h with
  | nil => intro b hb; cases hb
  | cons hu hc h1 h2 h3 hn h ih =>
    intro b hb
    rcases List.mem_cons.1 hb with rfl | hb
    · exact hu
    · exact ih b hb
theorem chn_sub {u : Nat → Bool} {c : Nat → List Nat} {ref : Nat} {t l : List Nat} (h : Chn u c ref t l) : ∀ b ∈ l, ∃ t' l', Chn u c (b + 1) t' l' ∧ l'.length ≤ l.length := by
  induction h with
  | nil => intro b hb; cases hb
  | cons hu hc h1 h2 h3 hn h ih =>
    intro b hb
    rcases List.mem_cons.1 hb with rfl | hb
    · exact ⟨_, _, .cons hu hc h1 h2 h3 hn h, Nat.le_refl _⟩
    · obtain ⟨t', l', i1, i2⟩ := ih b hb
      exact ⟨t', l', i1, by rw [List.length_cons]; omega⟩
theorem chn_nodup {u : Nat → Bool} {c : Nat → List Nat} {ref : Nat} {t l : List Nat} (h : Chn u c ref t l) : l.Nodup := by
  induction h with
  | nil => exact List.nodup_nil
  | @cons b next d t l hu hc h1 h2 h3 hn h ih =>
    refine List.nodup_cons.2 ⟨fun hb => ?_, ih⟩
    obtain ⟨t', l', i1, i2⟩ := chn_sub h b hb
    have := (chn_det i1 (.cons hu hc h1 h2 h3 hn h)).2
    rw [this, List.length_cons] at i2; omega
theorem chn_ref {u : Nat → Bool} {c : Nat → List Nat} {ref : Nat} {t l : List Nat} (h : Chn u c ref t l) : (ref = 0 ↔ t = []) ∧ (ref = 0 ↔ l = []) ∧ ∀ b, l.head? = some b → ref = b + 1 := by
  cases h with
  | nil => exact ⟨⟨fun _ => rfl, fun _ => rfl⟩, ⟨fun _ => rfl, fun _ => rfl⟩, fun b h => by cases h⟩
  | cons hu hc h1 h2 h3 hn h =>
    refine ⟨⟨fun h => by omega, fun h => ?_⟩, ⟨fun h => by omega, fun h => by cases h⟩, fun b h => ?_⟩
    · rw [List.append_eq_nil_iff] at h; rw [h.1] at h1; simp at h1
    · simp at h; rw [h]
theorem chn_need {u : Nat → Bool} {c : Nat → List Nat} {ref : Nat} {t l : List Nat} (h : Chn u c ref t l) : l.length = nblk t.length := by
  induction h with
  | nil => rfl
  | @cons b next d t l hu hc h1 h2 h3 hn h ih =>
    rw [List.length_cons, ih, List.length_append]
    have ht : next = 0 → t = [] := (chn_ref h).1.1
    unfold nblk
    rcases h3 with h3 | h3
    · rw [ht h3, List.length_nil]; split <;> split <;> omega
    · rw [h3]; split <;> split <;> omega
theorem chn_congr {u u' : Nat → Bool} {c c' : Nat → List Nat} {ref : Nat} {t l : List Nat} (h : Chn u c ref t l) (hu : ∀ b ∈ l, u' b = true) (hc : ∀ b ∈ l, c' b = c b) : Chn u' c' ref t l := by
  induction h with
  | nil => exact .nil
  | @cons b next d t l hu0 hc0 h1 h2 h3 hn h ih =>
    exact .cons (hu b (List.mem_cons_self ..)) ((hc b (List.mem_cons_self ..)).trans hc0) h1 h2 h3 hn (ih (fun x hx => hu x (List.mem_cons_of_mem _ hx)) fun x hx => hc x (List.mem_cons_of_mem _ hx))
theorem nblk_le (n : Nat) : n ≤ 248 * nblk n ∧ (0 < n → 248 * (nblk n - 1) < n) := by unfold nblk; split <;> omega
/-- What a block holds, as a work sees it. -/
def conB (T : WkT) (s : DevS) (ba b : Nat) : List Nat := ovF T.f (ba + 256 * b) (((imgS s).drop (ba + 256 * b)).take 256)
theorem ovF_get (f : TF) (p : Nat) (xs : List Nat) (i : Nat) : (ovF f p xs)[i]? = (xs[i]?).map fun x => ((f (p + i)).map (·.1)).getD x := by unfold ovF; rw [List.getElem?_mapIdx]
theorem layF_in {p i : Nat} {xs : List Nat} {fr : Bool} {f : TF} (h : i < xs.length) : (layF p xs fr f (p + i)).map (·.1) = some xs[i] := by
  unfold layF
  rw [if_pos ⟨by omega, by omega⟩, Nat.add_sub_cancel_left, List.getD_eq_getElem?_getD, List.getElem?_eq_getElem h]; rfl
theorem layF_out {p a : Nat} {xs : List Nat} {fr : Bool} {f : TF} (h : a < p ∨ p + xs.length ≤ a) : layF p xs fr f a = f a := by
  unfold layF
  rw [if_neg (by omega)]
theorem con_write {T : WkT} {s : DevS} {ba b c : Nat} {xs : List Nat} (hx : xs.length = 256) (hl : ba + 256 * b + 256 ≤ (imgS s).length) : conB (T.write ba b xs) s ba c = if c = b then xs else conB T s ba c := by
  unfold conB
  show ovF (layF (ba + 256 * b) xs (T.tk b) T.f) (ba + 256 * c) _ = _
  by_cases hc : c = b
  · subst hc
    rw [if_pos rfl]
    refine List.ext_getElem? fun i => ?_
    rw [ovF_get]
    rcases Nat.lt_or_ge i 256 with h | h
    · rw [layF_in (by omega), List.getElem?_eq_getElem (by rw [List.length_take, List.length_drop]; omega), List.getElem?_eq_getElem (by omega)]; rfl
    · rw [List.getElem?_eq_none (by rw [List.length_take]; omega), List.getElem?_eq_none (by omega)]; rfl
  · rw [if_neg hc]
    refine List.ext_getElem? fun i => ?_
    rw [ovF_get, ovF_get]
    rcases Nat.lt_or_ge i 256 with h | h
    · rw [layF_out (by omega)]
    · rw [List.getElem?_eq_none (by rw [List.length_take]; omega)]; rfl
theorem con_give (T : WkT) (s : DevS) (ba b : Nat) : conB (T.give b) s ba = conB T s ba := by
  funext c; unfold WkT.give; split <;> rfl
theorem con_len {T : WkT} {s : DevS} {ba b : Nat} (h : ba + 256 * b + 256 ≤ (imgS s).length) : (conB T s ba b).length = 256 := by
  unfold conB; rw [ovF_len, List.length_take, List.length_drop]; omega
/-- k free blocks are taken, the least ones; false: there are not so many. -/
def takeL (n : Nat) : Nat → WkT → List Nat × WkT × Bool
  | 0, T => ([], T, true)
  | k + 1, T => match leastB T n with
    | none => ([], T, false)
    | some b => (b :: (takeL n k (T.take b)).1, (takeL n k (T.take b)).2)
/-- A text is laid into blocks. -/
def wrL (ba : Nat) : List Nat → WkT → List Nat → WkT
  | [], T, _ => T
  | [b], T, s => T.write ba b (blkS 0 s)
  | b :: c :: l, T, s => wrL ba (c :: l) (T.write ba b (blkS (c + 1) (s.take 248))) (s.drop 248)
/-- A reference to the first of some blocks. -/
def refL : List Nat → Nat
  | [] => 0
  | b :: _ => b + 1
/-- Put: the reference, an error, what becomes of the work. -/
def putS (ba n : Nat) (T : WkT) (s : List Nat) : Nat × Int × WkT :=
  if 65536 < s.length then (0, 4, T)
  else if (takeL n (nblk s.length) T).2.2 = true then (refL (takeL n (nblk s.length) T).1, 0, wrL ba (takeL n (nblk s.length) T).1 (takeL n (nblk s.length) T).2.1 s)
  else (0, 7, (takeL n (nblk s.length) T).2.1)
theorem takeL_none {n k : Nat} {T : WkT} (h : leastB T n = none) (hk : 0 < k) : takeL n k T = ([], T, false) := by
  obtain ⟨j, rfl⟩ : ∃ j, k = j + 1 := ⟨k - 1, by omega⟩
  unfold takeL; rw [h]
theorem takeL_some {n k b : Nat} {T : WkT} (h : leastB T n = some b) (hk : 0 < k) : takeL n k T = (b :: (takeL n (k - 1) (T.take b)).1, (takeL n (k - 1) (T.take b)).2) := by
  obtain ⟨j, rfl⟩ : ∃ j, k = j + 1 := ⟨k - 1, by omega⟩
  conv => lhs; unfold takeL
  rw [h, Nat.add_sub_cancel]
theorem takeL_zero (n : Nat) (T : WkT) : takeL n 0 T = ([], T, true) := rfl
/-- What k takings make of a work. -/
theorem takeL_spec (n : Nat) : ∀ (k : Nat) (T : WkT), (takeL n k T).1.Nodup ∧ (∀ b ∈ (takeL n k T).1, b < n ∧ freeB T b = true) ∧ (takeL n k T).2.1 = { T with tk := fun b => T.tk b || decide (b ∈ (takeL n k T).1) } ∧
    ((takeL n k T).2.2 = true → (takeL n k T).1.length = k) ∧ ((takeL n k T).2.2 = false → leastB (takeL n k T).2.1 n = none ∧ (takeL n k T).1.length < k)
  | 0, T => by rw [takeL_zero]; exact ⟨List.nodup_nil, by simp, by simp, fun _ => rfl, fun h => by simp at h⟩
  | k + 1, T => by
    cases h : leastB T n with
    | none => rw [takeL_none h (by omega)]; exact ⟨List.nodup_nil, by simp, by simp, fun h => by simp at h, fun _ => ⟨h, by simp⟩⟩
    | some b =>
      rw [takeL_some h (by omega), Nat.add_sub_cancel]
      obtain ⟨i1, i2, i3, i4, i5⟩ := takeL_spec n k (T.take b)
      obtain ⟨h1, h2, h3⟩ := leastB_some.1 h
      have hf : ∀ c, freeB (T.take b) c = true → freeB T c = true ∧ c ≠ b := fun c hc => by
        unfold freeB WkT.take updG at hc
        by_cases e : c = b
        · simp [e] at hc
        · simp only [if_neg e] at hc; exact ⟨hc, e⟩
      refine ⟨List.nodup_cons.2 ⟨fun hm => (hf b (i2 b hm).2).2 rfl, i1⟩, fun c hc => ?_, ?_, fun hc => by rw [List.length_cons, i4 hc], fun hc => ⟨(i5 hc).1, by rw [List.length_cons]; have := (i5 hc).2; omega⟩⟩
      · rcases List.mem_cons.1 hc with rfl | hc
        · exact ⟨h1, h2⟩
        · exact ⟨(i2 c hc).1, (hf c (i2 c hc).2).1⟩
      · show (takeL n k (T.take b)).2.1 = _
        rw [i3]
        unfold WkT.take updG
        congr 1
        funext c
        by_cases e : c = b
        · simp [e]
        · simp [e]
theorem wrL_step {ba i : Nat} {L : List Nat} {T : WkT} {s : List Nat} (h : i + 1 < L.length) : wrL ba (L.drop i) T s = wrL ba (L.drop (i + 1)) (T.write ba L[i] (blkS (L[i + 1] + 1) (s.take 248))) (s.drop 248) := by
  rw [List.drop_eq_getElem_cons (show i < L.length by omega), List.drop_eq_getElem_cons h]; rfl
theorem wrL_last {ba i : Nat} {L : List Nat} {T : WkT} {s : List Nat} (h : i < L.length) (h2 : ¬ i + 1 < L.length) (s' : List Nat) : wrL ba (L.drop i) T s = wrL ba (L.drop (i + 1)) (T.write ba L[i] (blkS 0 s)) s' := by
  rw [List.drop_eq_getElem_cons h, List.drop_of_length_le (show L.length ≤ i + 1 by omega)]; rfl
theorem wrL_done {ba i : Nat} {L : List Nat} {T : WkT} {s : List Nat} (h : L.length ≤ i) : wrL ba (L.drop i) T s = T := by
  rw [List.drop_of_length_le h]; rfl
theorem wrL_tk (ba : Nat) : ∀ (L : List Nat) (T : WkT) (s : List Nat), (wrL ba L T s).tk = T.tk ∧ (wrL ba L T s).lv = T.lv ∧ (wrL ba L T s).gv = T.gv
  | [], T, s => ⟨rfl, rfl, rfl⟩
  | [b], T, s => ⟨rfl, rfl, rfl⟩
  | b :: c :: l, T, s => wrL_tk ba (c :: l) (T.write ba b (blkS (c + 1) (s.take 248))) (s.drop 248)
/-- Taking: a block, an error, what becomes of the work. -/
def takeS (n : Nat) (T : WkT) : Nat × Int × WkT := match leastB T n with
  | none => (0, 7, T)
  | some b => (b, 0, T.take b)
theorem takeS_ok {n b : Nat} {e : Int} {T T2 : WkT} (h : takeS n T = (b, e, T2)) (he : e = 0) : leastB T n = some b ∧ T2 = T.take b := by
  unfold takeS at h
  cases hl : leastB T n with
  | none => rw [hl] at h; simp only [Prod.mk.injEq] at h; omega
  | some c => rw [hl] at h; simp only [Prod.mk.injEq] at h; obtain ⟨rfl, _, rfl⟩ := h; exact ⟨rfl, rfl⟩
theorem takeS_no {n b : Nat} {e : Int} {T T2 : WkT} (h : takeS n T = (b, e, T2)) (he : e ≠ 0) : leastB T n = none ∧ T2 = T ∧ e = 7 := by
  unfold takeS at h
  cases hl : leastB T n with
  | none => rw [hl] at h; simp only [Prod.mk.injEq] at h; exact ⟨rfl, h.2.2.symm, h.2.1.symm⟩
  | some c => rw [hl] at h; simp only [Prod.mk.injEq] at h; omega
theorem putS_ok {ba n : Nat} {T T1 : WkT} {s L : List Nat} (h1 : s.length ≤ 65536) (h2 : takeL n (nblk s.length) T = (L, T1, true)) : putS ba n T s = (refL L, 0, wrL ba L T1 s) := by
  unfold putS; rw [if_neg (by omega), h2]; rfl
theorem putS_no {ba n : Nat} {T T1 : WkT} {s L : List Nat} (h1 : s.length ≤ 65536) (h2 : takeL n (nblk s.length) T = (L, T1, false)) : putS ba n T s = (0, 7, T1) := by
  unfold putS; rw [if_neg (by omega), h2]; rfl
end Go.Vl

namespace Go.Vl
open Go Go.Proofs
/-! ### Stable sorting, by an order -/
section
variable {α : Type} {lt : α → α → Bool}
/-- A strict weak order. -/
structure SWO (lt : α → α → Bool) : Prop where
  asymm : ∀ a b, lt a b = true → lt b a = false
  ntrans : ∀ a b c, lt b a = false → lt c b = false → lt c a = false
def leF (lt : α → α → Bool) (a b : α) : Bool := !lt b a
def Sd (lt : α → α → Bool) (l : List α) : Prop := l.Pairwise fun a b => lt b a = false
def eqv (lt : α → α → Bool) (a b : α) : Bool := !lt a b && !lt b a
/-- r is l, sorted, what is alike in its order. -/
structure SS (lt : α → α → Bool) (l r : List α) : Prop where
  sd : Sd lt r
  eq : ∀ a, r.filter (eqv lt a) = l.filter (eqv lt a)
/-- Two, merged: the first's go first where they are alike. -/
def mg (lt : α → α → Bool) : List α → List α → List α
  | [], ys => ys
  | xs, [] => xs
  | x :: xs, y :: ys => if lt y x then y :: mg lt (x :: xs) ys else x :: mg lt xs (y :: ys)
termination_by xs ys => xs.length + ys.length
end
end Go.Vl

namespace Go.Vl
open Go Go.Proofs
section
variable {α : Type} {lt : α → α → Bool}
/-- Two places of a list change. -/
def sw (l : List α) (p q : Nat) : List α := if h : p < l.length ∧ q < l.length then (l.set p (l[q]'h.2)).set q (l[p]'h.1) else l
/-- Two ranges change places. -/
def swR (l : List α) (a b : Nat) : Nat → List α
  | 0 => l
  | n + 1 => sw (swR l a b n) (a + n) (b + n)
/-! ### Blocks -/
/-- Of each block of bs, d has it sorted. -/
def Blk (lt : α → α → Bool) (bs : Nat) (l d : List α) : Prop := d.length = l.length ∧ ∀ k, SS lt ((l.drop (k * bs)).take bs) ((d.drop (k * bs)).take bs)
/-- The blocks up to a are merged two by two, those behind it are not. -/
structure Blm (lt : α → α → Bool) (bs a : Nat) (l d : List α) : Prop where
  len : d.length = l.length
  two : ∀ k, (k + 1) * (2 * bs) ≤ a → SS lt ((l.drop (k * (2 * bs))).take (2 * bs)) ((d.drop (k * (2 * bs))).take (2 * bs))
  one : ∀ k, a ≤ k * bs → SS lt ((l.drop (k * bs)).take bs) ((d.drop (k * bs)).take bs)
/-! ### A list's stable order -/
def srt (lt : α → α → Bool) (l : List α) : List α := l.foldl (fun acc x => mg lt acc [x]) []
end
end Go.Vl

namespace Go.Vl
open Go Go.Proofs
section
variable {α : Type} {lt : α → α → Bool}
/-- Between p and q the list is sorted; elsewhere nothing changes. -/
structure InsR (lt : α → α → Bool) (p q : Nat) (d d2 : List α) : Prop where
  len : d2.length = d.length
  pre : d2.take p = d.take p
  post : d2.drop q = d.drop q
  ss : SS lt ((d.drop p).take (q - p)) ((d2.drop p).take (q - p))
/-- The element i stands at j. -/
def insT (d : List α) (x : α) (i j : Nat) : List α := d.take j ++ x :: ((d.drop j).take (i - j) ++ d.drop (i + 1))
/-! ### Rotation -/
def rotT (d : List α) (p m q : Nat) : List α := d.take p ++ ((d.drop m).take (q - m) ++ ((d.drop p).take (m - p) ++ d.drop q))
def RotI (m i j : Nat) (d T : List α) : Prop := ∃ P X Y Q : List α, d = P ++ (X ++ (Y ++ Q)) ∧ P.length + i = m ∧ X.length = i ∧ Y.length = j ∧ P ++ (Y ++ (X ++ Q)) = T
/-! ### Merging in place -/
/-- Between p and q two sorted parts that meet at m are merged. -/
def symT (lt : α → α → Bool) (d : List α) (p m q : Nat) : List α := d.take p ++ (mg lt ((d.drop p).take (m - p)) ((d.drop m).take (q - m)) ++ d.drop q)
end
end Go.Vl

namespace Go.Vl
open Go Go.Proofs
/-- A mark. -/
structure Mk where
  id : Nat
  at_ : Int
  gr : Nat
deriving DecidableEq
def Mk.cells (m : Mk) : List Value := [.int .u32 (m.id : Nat), .int .i64 m.at_, .int .u8 (m.gr : Nat)]
def mcs (l : List Mk) : List Value := l.flatMap Mk.cells
/-- What holds two marks against each other. -/
structure OrdF (gf : Nat) (cf : Mk → Mk → Int) : Prop where
  body : bodyB Tryz.prog gf = true
  run : ∀ (A : SP) (x y : Mk), Fn Tryz.prog gf #[.agg x.cells.toArray, .agg y.cells.toArray] A (fun v B => v = .int .i64 (cf x y) ∧ A = B)
def ltc (cf : Mk → Mk → Int) (x y : Mk) : Bool := decide (cf x y < 0)
theorem wrap_i64 {a : Nat} (h : a ≤ 9223372036854775807) : IntKind.i64.wrap (a : Int) = a := by simp [IntKind.wrap, IntKind.bits, IntKind.signed]; omega
end Go.Vl

namespace Go.Vl
open Go Go.Proofs
def gA (d : List Mk) (k : Nat) : Mk := d.getD k ⟨0, 0, 0⟩
section
variable {α : Type} {lt : α → α → Bool}
/-- The element p stands at k. -/
def fwT (d : List α) (x : α) (p k : Nat) : List α := d.take p ++ ((d.drop (p + 1)).take (k - p) ++ x :: d.drop (k + 1))
end
section
variable {α : Type} {lt : α → α → Bool}
/-- The blocks up to a are sorted, what stands behind it is as it was. -/
structure Bl1 (lt : α → α → Bool) (bs a : Nat) (l d : List α) : Prop where
  len : d.length = l.length
  done : ∀ k, (k + 1) * bs ≤ a → SS lt ((l.drop (k * bs)).take bs) ((d.drop (k * bs)).take bs)
  rest : d.drop a = l.drop a
end
end Go.Vl

namespace Go.Vl
open Go Go.Proofs
/-! ### Structs of ints of any kinds that are held against each other -/
def intK (P : Program) (f : Field) (k : IntKind) : Bool := f.name != "_" && plainE P f.type && (match P.underlying f.type with | some (.int j) => j == k | _ => false)
def zk (ks : List IntKind) (l : List Int) : List Value := List.zipWith Value.int ks l
def flatK (P : Program) (fs : Array Field) (ks : List IntKind) : Bool := ((fs.toList.map fun f => f.offset) == List.range ks.length) && fs.toList.all fun f => intK P f (ks.getD f.offset .i64)
def Mk.ns (m : Mk) : List Int := [(m.id : Int), m.at_, (m.gr : Int)]
def mkk : List IntKind := [.u32, .i64, .u8]
section
variable {n : Nat} {ρ : Env} {A : SP} {dst : Option Tmp} {ty : TypeId} {pos : String} {after : Array Edge} {gd : Option (Nat × Bool)}
end
/-- By number. -/
def cId (x y : Mk) : Int := if x.id < y.id then -1 else if y.id < x.id then 1 else 0
/-- By place, then by number. -/
def cPl (x y : Mk) : Int := if x.at_ < y.at_ then -1 else if y.at_ < x.at_ then 1 else cId x y
attribute [local irreducible] Sl pt ro
def okM (m : Mk) : Bool := decide (0 ≤ m.at_) && decide (m.gr ≤ 1)
end Go.Vl

namespace Go.Vl
open Go Go.Proofs
/-- Bytes in a block of their own, from its begin on; e is the block's kind. -/
def SlB (e : TypeId) (v : Value) (n : Nat) (xs : List Value) : SP := fun h => xs.length = n ∧
  ((v = .slice none 0 0 ∧ n = 0 ∧ h = fun _ => none) ∨
   ∃ b cap l, v = .slice (some ⟨b, 0, none⟩) n cap ∧ n ≤ cap ∧ cap ≤ l.length ∧ l.take n = xs ∧ pt b (cl l e) h)
theorem slb_iff {e : TypeId} {v : Value} {n : Nat} {xs : List Value} {R : SP} {g : Gh} {w : World} : sat g w (R * SlB e v n xs) ↔ xs.length = n ∧
    ((v = .slice none 0 0 ∧ n = 0 ∧ sat g w R) ∨ ∃ b cap l, v = .slice (some ⟨b, 0, none⟩) n cap ∧ n ≤ cap ∧ cap ≤ l.length ∧ l.take n = xs ∧ sat g w (R * pt b (cl l e))) := by
  constructor
  · intro hs
    obtain ⟨_, ⟨x, y, hd, rfl, ha, hl, hb⟩, hx⟩ := hs.hp
    refine ⟨hl, ?_⟩
    rcases hb with ⟨e1, e2, e3⟩ | ⟨b, cap, l, e1, e2, e3, e4, e5⟩
    · exact .inl ⟨e1, e2, hs.left⟩
    · exact .inr ⟨b, cap, l, e1, e2, e3, e4, hs.os, hs.tape, hs.out, _, ⟨x, y, hd, rfl, ha, e5⟩, hx⟩
  · rintro ⟨hl, h | ⟨b, cap, l, e1, e2, e3, e4, hs⟩⟩
    · obtain ⟨e1, e2, hs⟩ := h
      rw [← star_emp R] at hs
      exact hs.mono fun h ⟨x, y, hd, e, ha, hb⟩ => ⟨x, y, hd, e, ha, hl, .inl ⟨e1, e2, hb⟩⟩
    · exact hs.mono fun h ⟨x, y, hd, e, ha, hb⟩ => ⟨x, y, hd, e, ha, hl, .inr ⟨b, cap, l, e1, e2, e3, e4, hb⟩⟩
theorem slb_nil {e : TypeId} {R : SP} {g : Gh} {w : World} (hs : sat g w R) : sat g w (R * SlB e (.slice none 0 0) 0 []) := slb_iff.2 ⟨rfl, .inl ⟨rfl, rfl, hs⟩⟩
theorem slb_rd {e : TypeId} {v : Value} {n : Nat} {xs : List Value} {R : SP} {g : Gh} {w : World} (hs : sat g w (R * SlB e v n xs)) : ∃ a cap, v = .slice a n cap ∧ n ≤ cap ∧ Rd (R * SlB e v n xs) a xs := by
  obtain ⟨hl, ⟨rfl, rfl, _⟩ | ⟨b, cap, l, rfl, h1, h2, h3, hs'⟩⟩ := slb_iff.1 hs
  · exact ⟨none, 0, rfl, Nat.le_refl _, by rw [List.eq_nil_of_length_eq_zero hl]; exact rd_nil⟩
  · refine ⟨_, cap, rfl, h1, rd_cells fun i v hv g' w' hs2 => ?_⟩
    obtain ⟨_, ⟨e1, _⟩ | ⟨b', cap', l', e1, _, _, h4, hs3⟩⟩ := slb_iff.1 hs2
    · cases e1
    · simp only [Value.slice.injEq, Option.some.injEq, Addr.mk.injEq, and_true, true_and] at e1
      obtain ⟨rfl, rfl⟩ := e1
      rw [Nat.zero_add, cell_cl (has_here g' w' hs3)]
      rw [← h4, List.getElem?_take] at hv
      split at hv
      · exact hv
      · cases hv
section
variable {P : Program} {n : Nat} {ρ : Env} {A : SP} {dst : Option Tmp} {ty : TypeId} {pos : String} {after : Array Edge} {gd : Option (Nat × Bool)}
/-- A pointer and itself. -/
theorem o_nepS {t t' e : TypeId} {x y : Operand} {a : Addr} {j : TypeInfo} (hu : P.underlying t = some (.pointer e)) (hj : P.info? e = some j) (hge : P.eqGuardType P.depth t = false) (hx : ev n ρ x = .pointer (some a)) (hy : ev n ρ y = .pointer (some a)) :
    OpV P n ρ A ⟨dst, .binOp .neq t x y t', ty, pos, after, gd⟩ (.bool false) := opv_of fun w => by
  simp only [execOp, hx, hy]
  rw [run_bind (w' := w) (a := .bool false)]
  · rfl
  rw [run_bind (w' := w) (a := ())]
  · exact Lib.run_neq_ptr_same w a hu hj
  · simp [eqGuard, hge, program, bind, Sem.bind, Sem.run, pure]
theorem o_toU {s t te E : TypeId} {x : Operand} {b : Nat} {l : List Value} {j : TypeInfo} (hs : P.underlying s = some (.pointer te)) (hd : P.underlying t = some .unsafePointer) (ht : P.info? te = some j) (hj : j.size ≠ 0) (hx : ev n ρ x = .pointer (some ⟨b, 0, none⟩)) (hh : Has A b (cl l E)) (hl : 0 < l.length) :
    OpV P n ρ A ⟨dst, .convert s t x, ty, pos, after, gd⟩ (.pointer (some ⟨b, 0, none⟩)) := fun g w hsat => by
  have h := hh g w hsat
  simp only [execOp, hx]
  rw [run_bind (w' := w) (a := .pointer (some ⟨b, 0, none⟩))]
  · rfl
  exact Lib.run_to_unsafe w ⟨b, 0, none⟩ hs hd ht hj (e := E) (cells := l.length) (by unfold World.shape?; rw [h]; simp [cl]) hl
theorem o_fromU {s t u E : TypeId} {x : Operand} {b : Nat} {l : List Value} {j : TypeInfo} (hs : P.underlying s = some .unsafePointer) (hd : P.underlying t = some (.pointer u)) (hj : P.info? u = some j) (hx : ev n ρ x = .pointer (some ⟨b, 0, none⟩)) (hh : Has A b (cl l E)) (hli : liesAt P P.depth E (l.length / P.cellsOf E) 0 u 1 = true) :
    OpV P n ρ A ⟨dst, .convert s t x, ty, pos, after, gd⟩ (.pointer (some ⟨b, 0, none⟩)) := fun g w hsat => by
  have h := hh g w hsat
  simp only [execOp, hx]
  rw [run_bind (w' := w) (a := .pointer (some ⟨b, 0, none⟩))]
  · rfl
  exact Lib.run_from_unsafe w ⟨b, 0, none⟩ hs hd hj (e := E) (cells := l.length) (by unfold World.shape?; rw [h]; simp [cl]) hli
theorem o_noEsc {f : FuncId} {fn : Func} {tys : Array TypeId} {x : Operand} {v : Value} (hf : P.funcs[f]? = some fn) (hname : (fn.name == "runtime.NumGoroutine") = false) (hb : fn.body.isNone = true) (hn : Extern.findNext fn = none) (he : Extern.find fn = some Extern.AbiNoEscape.same) (hx : ev n ρ x = v) :
    OpV P n ρ A ⟨dst, .call { callee := .value (.func f), args := #[x], argTypes := tys }, ty, pos, after, gd⟩ v := opv_of fun w => by
  have hx' : (#[x] : Array Operand).map (ev n ρ) = #[v] := by simp [hx]
  have hfv : ev n ρ (.func f) = .func (.func f) #[] #[] := rfl
  simp only [execOp, resolve, hfv, Deferred.ofValue, hx']
  rw [run_bind (w' := w) (a := ⟨.fn (.func f) #[], #[] ++ #[v]⟩) (by rfl)]
  simp only [invoke]
  have : (callFunc f (#[] ++ #[v] ++ #[])).run P w = .ok (.value v) w := by rw [run_callFunc_extern hf hname hb hn he]; rfl
  exact this
end
end Go.Vl

namespace Go.Vl
open Go Go.Proofs
theorem run_firstS {P : Program} {k : Nat} {str : ByteArray} {w : World} : (Builtin.firstCells k str.size (.string str)).run P w = .ok (bys (sbys str)).toArray w := by
  simp [Builtin.firstCells, bys, sbys]
  apply Array.ext'
  simp
  exact fun a _ => rfl
section
variable {P : Program} {n : Nat} {ρ : Env} {A : SP} {dst : Option Tmp} {ty : TypeId} {pos : String} {after : Array Edge} {gd : Option (Nat × Bool)}
theorem o_appendGS {t t' e : TypeId} {x y : Operand} {v z : Value} {m k q bytes : Nat} {str : ByteArray} {xs ys : List Value} {R : SP}
    (hu : P.underlying t = some (.slice e)) (hu' : P.underlying t' = some .string) (hk : szE P e = some k) (hb : bytesE P e = some bytes) (hz : zeroE P e = some z) (hzk : z.cells.size = k) (hk0 : 0 < k) (hb0 : 0 < bytes)
    (hx : ev n ρ x = v) (hy : ev n ρ y = .string str) (hA : A = R * Sl k v q xs) (hys : bys (sbys str) = ys) (hz9 : str.size = m) (hm : ys.length = m * k) (ho : ∀ u ∈ ys, oneC u = true) (hlim : (q + m) * bytes ≤ 140737488355328) :
    OpX P n ρ A ⟨dst, .call { callee := .builtin .append, args := #[x, y], argTypes := #[t, t'] }, ty, pos, after, gd⟩ (fun v' B => (∃ a' c', v = .slice a' q c' ∧ v' = .slice a' (q + m) c' ∧ q + m ≤ c' ∧ B = R * Sl k v' (q + m) (xs ++ ys)) ∨ B = R * Sl k v q xs * Sl k v' (q + m) (xs ++ ys)) := fun g w hs => by
  have hs0 := hs
  rw [hA] at hs0
  obtain ⟨hl, hcase⟩ := sl_iff.1 hs0
  obtain ⟨aa, cap, hv, hqc, _, hrd⟩ := sl_have hs0
  -- the run, but for the operation itself
  have key : ∀ (r : Value) (w' : World), (Builtin.append_ #[t, t'] ty #[v, .string str]).run P w = .ok r w' →
      (execOp (ev n ρ) ⟨dst, .call { callee := .builtin .append, args := #[x, y], argTypes := #[t, t'] }, ty, pos, after, gd⟩).run P w = .ok (.value r) w' := fun r w' h => by
    simp only [execOp, resolve, List.map_toArray, List.map_cons, List.map_nil, hx, hy]
    rw [run_bind (w' := w) (a := ⟨.builtin .append #[t, t'] ty _, #[v, .string str]⟩) (by rfl)]
    simp only [invoke, builtin]
    rw [run_bind h]; rfl
  have hold : (Builtin.firstCells k q (.slice aa q cap)).run P w = .ok xs.toArray w := run_firstCells hrd hl hs0
  have hnew : ∀ w' : World, sat g w' A → (Builtin.firstCells k m (.string str)).run P w' = .ok ys.toArray w' := fun w' h => by subst hz9; subst hys; exact run_firstS
  subst hv
  obtain ⟨i, hi, hi1, hi2, hi3⟩ := info_of hk hb hz
  by_cases hroom : q + m ≤ cap
  · -- there is room
    rcases hcase with ⟨e1, e2, hsR⟩ | ⟨b, off, cap', l, E, e1, e2, e3, e4, hsR⟩
    · simp only [Value.slice.injEq] at e1
      obtain ⟨rfl, rfl, rfl⟩ := e1
      have hm0 : m = 0 := by omega
      subst hm0
      have hy0 : ys = [] := by simpa using hm
      subst hy0
      refine ⟨.slice none 0 0, w, _, key _ _ ?_, ?_, .inl ⟨none, 0, rfl, rfl, by omega, rfl⟩⟩
      · have hn := hnew w hs
        simp [Builtin.append_, run_underlying hu, run_underlying hu', sizeOf, typeInfo, hi, hi1, Builtin.lenOf, hz9, hn]
      · rw [List.append_nil]; exact hs0
    · simp only [Value.slice.injEq] at e1
      obtain ⟨rfl, _, rfl⟩ := e1
      have hlen : off + q * k + ys.length ≤ l.length := by
        have : (q + m) * k ≤ cap * k := Nat.mul_le_mul_right k hroom
        rw [Nat.add_mul] at this
        omega
      obtain ⟨w', hst, hh, g1, g2, g3⟩ := run_storeCells (P := P) (off := off + q * k) ys 0 l w (has_here g w hsR) (by omega) ho
      refine ⟨.slice (some ⟨b, off, none⟩) (q + m) cap, w', _, key _ _ ?_, ?_, .inl ⟨_, _, rfl, rfl, hroom, rfl⟩⟩
      · have hn := hnew w hs
        simp [Builtin.append_, run_underlying hu, run_underlying hu', sizeOf, typeInfo, hi, hi1, Builtin.lenOf, hz9, hn, hroom, addr_add, hst]
      · have hu2 : Upd (R * pt b (cl l E)) b (cl l E) (cl (splice l (off + q * k) ys) E) (R * pt b (cl (splice l (off + q * k) ys) E)) := upd_here
        have hs2 := hu2.sat hsR (fun j => by rw [hh j]; rfl) g1 g2 g3
        refine sl_iff.2 ⟨by rw [List.length_append, hl, hm, Nat.add_mul], .inr ⟨b, off, cap, _, E, rfl, hroom, by rw [splice_length]; exact e3, ?_, hs2⟩⟩
        apply List.ext_getElem?
        intro i
        rw [List.getElem?_take, List.getElem?_append, List.getElem?_drop, splice_getElem? _ _ _ _ hlen, Nat.add_mul, ← hm, ← hl]
        have hx' : ∀ i, i < xs.length → l[off + i]? = xs[i]? := fun i hi => by
          rw [← e4, List.getElem?_take, if_pos (by rw [← hl]; exact hi), List.getElem?_drop]
        by_cases h1 : i < xs.length
        · rw [if_pos (by omega), if_neg (by omega), if_pos h1, hx' i h1]
        · by_cases h2 : i < xs.length + ys.length
          · rw [if_pos h2, if_pos (by omega), if_neg h1]; congr 1; omega
          · rw [if_neg h2, if_neg h1, List.getElem?_eq_none (by omega)]
  · -- it grows
    have hbig : cap < q + m := by omega
    have hfit := growslice_fits hbig hlim
    have p48 : (2 : Nat) ^ 48 = 281474976710656 := by decide
    let cut := (Question.appendCap (q + m) cap e).cut (w.tape w.drawn (.appendCap (q + m) cap e))
    have hcut : q + m ≤ cut := by show q + m ≤ (q + m) + _; omega
    let wd : World := { w with drawn := w.drawn + 1 }
    have hsd : sat g wd A := hs.draw rfl rfl rfl rfl
    have hsd0 : sat g wd (R * Sl k (.slice aa q cap) q xs) := hA ▸ hsd
    have hold' : (Builtin.firstCells k q (.slice aa q cap)).run P wd = .ok xs.toArray wd := run_firstCells hrd hl hsd0
    let rest := Builtin.zeroCells z.cells (cut - (q + m))
    have hrest : rest.size = (cut - (q + m)) * k := by show (Builtin.zeroCells z.cells (cut - (q + m))).size = _; rw [size_zeroCells, hzk]
    let cs := xs ++ ys ++ rest.toList
    have hcs : xs.toArray ++ ys.toArray ++ rest = cs.toArray := by apply Array.ext'; simp [cs]
    refine ⟨.slice (some ⟨w.heap.size, 0, none⟩) (q + m) cut, wd.alloc (cl cs e), _, key _ _ ?_, ?_, .inr rfl⟩
    · have hn := hnew wd hsd
      have h63 : ¬ (9223372036854775807 < ((q : Int) + (m : Int))) := by
        have : (q + m) * 1 ≤ (q + m) * bytes := Nat.mul_le_mul_left _ hb0
        omega
      have hfit' : ¬ (281474976710656 < Builtin.nextslicecap (q + m) cap * i.bytes) := by rw [hi2]; omega
      have hwd : w.drew = wd := rfl
      have hcut' : (Question.appendCap (q + m) cap e).cut (w.tape w.drawn (.appendCap (q + m) cap e)) = cut := rfl
      have hrow : wd.alloc (.cells (xs.toArray ++ ys.toArray ++ Builtin.zeroCells z.cells (cut - (q + m))) e) = wd.alloc (cl cs e) := congrArg (fun c => wd.alloc (.cells c e)) hcs
      have hsz : wd.heap.size = w.heap.size := rfl
      rw [← hrow]
      simp [Builtin.append_, run_underlying hu, run_underlying hu', sizeOf, typeInfo, zeroValue, hi, hi1, hi3, Builtin.lenOf, hz9, hroom, h63, hfit', Question.forced, hwd, hold', hn, hcut', newRow, hsz]
      congr 2; apply Array.ext'; simp
    · have := hsd0.alloc (cl cs e)
      refine sl_new this hcut ?_ ?_
      · simp only [cs, List.length_append, Array.length_toList, hrest, hl, hm, ← Nat.add_mul]
        rw [Nat.add_sub_cancel' hcut]; exact Nat.le_refl _
      · have : (q + m) * k = (xs ++ ys).length := by rw [List.length_append, hl, hm, Nat.add_mul]
        rw [this]
        show List.take _ ((xs ++ ys) ++ _) = _
        rw [List.take_left]
theorem o_appendS {t t' e : TypeId} {x y : Operand} {v z : Value} {m k q bytes : Nat} {str : ByteArray} {xs ys : List Value} {R : SP}
    (hu : P.underlying t = some (.slice e)) (hu' : P.underlying t' = some .string) (hk : szE P e = some k) (hb : bytesE P e = some bytes) (hz : zeroE P e = some z) (hzk : z.cells.size = k) (hk0 : 0 < k) (hb0 : 0 < bytes)
    (hx : ev n ρ x = v) (hy : ev n ρ y = .string str) (hA : A = R * Sl k v q xs) (hys : bys (sbys str) = ys) (hz9 : str.size = m) (hm : ys.length = m * k) (ho : ∀ u ∈ ys, oneC u = true) (hlim : (q + m) * bytes ≤ 140737488355328) :
    OpX P n ρ A ⟨dst, .call { callee := .builtin .append, args := #[x, y], argTypes := #[t, t'] }, ty, pos, after, gd⟩ (fun v' B => B = R * Sl k v' (q + m) (xs ++ ys)) := fun g w hs => by
  obtain ⟨v', w', B, h1, h2, ⟨_, _, _, _, _, rfl⟩ | rfl⟩ := o_appendGS (dst := dst) (ty := ty) (pos := pos) (after := after) (gd := gd) hu hu' hk hb hz hzk hk0 hb0 hx hy hA hys hz9 hm ho hlim g w hs
  · exact ⟨v', w', _, h1, h2, rfl⟩
  · refine ⟨v', w', _, h1, ?_, rfl⟩
    rw [star_assoc, star_comm (Sl k v q xs), ← star_assoc] at h2
    exact h2.left
/-- append of a string to an owned slice. -/
theorem o_apRS {t t' e : TypeId} {x y : Operand} {z : Value} {m k q bytes c0 : Nat} {str : ByteArray} {a : Option Addr} {xs zs : List Value} {R : SP} {C : SP → SP}
    (hu : P.underlying t = some (.slice e)) (hu' : P.underlying t' = some .string) (hk : szE P e = some k) (hb : bytesE P e = some bytes) (hz : zeroE P e = some z) (hzk : z.cells.size = k) (hk0 : 0 < k) (hb0 : 0 < bytes)
    (hx : ev n ρ x = .slice a q c0) (hy : ev n ρ y = .string str) (hf : Ct A (Sl k (.slice a q c0) q xs) R C) (hz9 : str.size = m) (hm : (bys (sbys str)).length = m * k) (hlim : (q + m) * bytes ≤ 140737488355328) (he : xs ++ bys (sbys str) = zs) :
    OpX P n ρ A ⟨dst, .call { callee := .builtin .append, args := #[x, y], argTypes := #[t, t'] }, ty, pos, after, gd⟩ (fun v' B => ∃ a' c', v' = .slice a' (q + m) c' ∧ q + m ≤ c' ∧ B = C (Sl k (.slice a' (q + m) c') (q + m) zs)) := fun g w hs => by
  subst he
  obtain ⟨rfl, hC⟩ := hf
  obtain ⟨v', w', B, hr, hB, rfl⟩ := o_appendS (dst := dst) (ty := ty) (pos := pos) (after := after) (gd := gd) hu hu' hk hb hz hzk hk0 hb0 hx hy rfl rfl hz9 hm (fun u hu => List.all_eq_true.1 (bys_all _) u hu) hlim g w hs
  obtain ⟨a', c', rfl, h1, _⟩ := sl_have hB
  exact ⟨_, w', _, hr, hB, a', c', rfl, h1, (hC _).symm⟩
theorem o_apSBS {t t' e : TypeId} {x y : Operand} {z : Value} {m q bytes c0 : Nat} {str : ByteArray} {a : Option Addr} {xs ys : List Value} {R : SP} {C : SP → SP}
    (hu : P.underlying t = some (.slice e)) (hu' : P.underlying t' = some .string) (hk : szE P e = some 1) (hb : bytesE P e = some bytes) (hz : zeroE P e = some z) (hzk : z.cells.size = 1) (hb0 : 0 < bytes)
    (hx : ev n ρ x = .slice a q c0) (hy : ev n ρ y = .string str) (hf : Ct A (SlB e (.slice a q c0) q xs) R C) (hys : bys (sbys str) = ys) (hz9 : str.size = m) (hm : ys.length = m) (ho : ys.all oneC = true) (hlim : (q + m) * bytes ≤ 140737488355328) :
    OpX P n ρ A ⟨dst, .call { callee := .builtin .append, args := #[x, y], argTypes := #[t, t'] }, ty, pos, after, gd⟩ (fun v' B => ∃ a' c', v' = .slice a' (q + m) c' ∧ B = C (SlB e (.slice a' (q + m) c') (q + m) (xs ++ ys))) := fun g w hs => by
  have ho' : ∀ u ∈ ys, oneC u = true := fun u hu => List.all_eq_true.1 ho u hu
  obtain ⟨hA, hC⟩ := hf
  have hs0 := hs
  rw [hA] at hs0
  obtain ⟨hl, hcase⟩ := slb_iff.1 hs0
  obtain ⟨aa, cap, hv, hqc, hrd⟩ := slb_rd hs0
  simp only [Value.slice.injEq, true_and] at hv
  obtain ⟨rfl, rfl⟩ := hv
  have key : ∀ (r : Value) (w' : World), (Builtin.append_ #[t, t'] ty #[.slice a q c0, .string str]).run P w = .ok r w' →
      (execOp (ev n ρ) ⟨dst, .call { callee := .builtin .append, args := #[x, y], argTypes := #[t, t'] }, ty, pos, after, gd⟩).run P w = .ok (.value r) w' := fun r w' h => by
    simp only [execOp, resolve, List.map_toArray, List.map_cons, List.map_nil, hx, hy]
    rw [run_bind (w' := w) (a := ⟨.builtin .append #[t, t'] ty _, #[.slice a q c0, .string str]⟩) (by rfl)]
    simp only [invoke, builtin]
    rw [run_bind h]; rfl
  have hold : (Builtin.firstCells 1 q (.slice a q c0)).run P w = .ok xs.toArray w := run_firstCells hrd (by omega) hs0
  have hnew : ∀ w' : World, sat g w' A → (Builtin.firstCells 1 m (.string str)).run P w' = .ok ys.toArray w' := fun w' h => by subst hz9; subst hys; exact run_firstS
  obtain ⟨i, hi, hi1, hi2, hi3⟩ := info_of hk hb hz
  by_cases hroom : q + m ≤ c0
  · rcases hcase with ⟨e1, e2, hsR⟩ | ⟨b, cap', l, e1, e2, e3, e4, hsR⟩
    · simp only [Value.slice.injEq] at e1
      obtain ⟨rfl, rfl, rfl⟩ := e1
      obtain rfl : m = 0 := by omega
      have hy0 : ys = [] := List.eq_nil_of_length_eq_zero hm
      subst hy0
      have hx0 : xs = [] := List.eq_nil_of_length_eq_zero hl
      subst hx0
      refine ⟨.slice none 0 0, w, _, key _ _ ?_, ?_, none, 0, rfl, rfl⟩
      · have hn := hnew w hs
        simp [Builtin.append_, run_underlying hu, run_underlying hu', sizeOf, typeInfo, hi, hi1, Builtin.lenOf, hz9, hn]
      · rw [hC]; exact hs0
    · simp only [Value.slice.injEq, true_and] at e1
      obtain ⟨rfl, rfl⟩ := e1
      have hlen : 0 + q + ys.length ≤ l.length := by omega
      obtain ⟨w', hst, hh, g1, g2, g3⟩ := run_storeCells (P := P) (off := 0 + q) ys 0 l w (has_here g w hsR) (by omega) ho'
      refine ⟨.slice (some ⟨b, 0, none⟩) (q + m) c0, w', _, key _ _ ?_, ?_, _, _, rfl, rfl⟩
      · have hn := hnew w hs
        have hst' : (storeCells ⟨b, q, none⟩ ys).run P w = .ok () w' := by simpa using hst
        simp [Builtin.append_, run_underlying hu, run_underlying hu', sizeOf, typeInfo, hi, hi1, Builtin.lenOf, hz9, hn, hroom, addr_add, hst']
      · have hu2 : Upd (R * pt b (cl l e)) b (cl l e) (cl (splice l (0 + q) ys) e) (R * pt b (cl (splice l (0 + q) ys) e)) := upd_here
        have hs2 := hu2.sat hsR (fun j => by rw [hh j]; rfl) g1 g2 g3
        rw [hC]
        refine slb_iff.2 ⟨by rw [List.length_append]; omega, .inr ⟨b, c0, _, rfl, hroom, by rw [splice_length]; exact e3, ?_, hs2⟩⟩
        rw [splice_eq (by omega), Nat.zero_add, e4, List.take_left' (by rw [List.length_append]; omega)]
  · have hbig : c0 < q + m := by omega
    have hfit := growslice_fits hbig hlim
    have p48 : (2 : Nat) ^ 48 = 281474976710656 := by decide
    let cut := (Question.appendCap (q + m) c0 e).cut (w.tape w.drawn (.appendCap (q + m) c0 e))
    have hcut : q + m ≤ cut := by show q + m ≤ (q + m) + _; omega
    let wd : World := { w with drawn := w.drawn + 1 }
    have hsd : sat g wd A := hs.draw rfl rfl rfl rfl
    have hsd0 : sat g wd (R * SlB e (.slice a q c0) q xs) := hA ▸ hsd
    have hold' : (Builtin.firstCells 1 q (.slice a q c0)).run P wd = .ok xs.toArray wd := run_firstCells hrd (by omega) hsd0
    let rest := Builtin.zeroCells z.cells (cut - (q + m))
    have hrest : rest.size = cut - (q + m) := by show (Builtin.zeroCells z.cells (cut - (q + m))).size = _; rw [size_zeroCells, hzk, Nat.mul_one]
    let cs := xs ++ ys ++ rest.toList
    have hcs : xs.toArray ++ ys.toArray ++ rest = cs.toArray := by apply Array.ext'; simp [cs]
    refine ⟨.slice (some ⟨w.heap.size, 0, none⟩) (q + m) cut, wd.alloc (cl cs e), _, key _ _ ?_, ?_, _, _, rfl, rfl⟩
    · have hn := hnew wd hsd
      have h63 : ¬ (9223372036854775807 < ((q : Int) + (m : Int))) := by
        have : (q + m) * 1 ≤ (q + m) * bytes := Nat.mul_le_mul_left _ hb0
        omega
      have hfit' : ¬ (281474976710656 < Builtin.nextslicecap (q + m) c0 * i.bytes) := by rw [hi2]; omega
      have hwd : w.drew = wd := rfl
      have hcut' : (Question.appendCap (q + m) c0 e).cut (w.tape w.drawn (.appendCap (q + m) c0 e)) = cut := rfl
      have hrow : wd.alloc (.cells (xs.toArray ++ ys.toArray ++ Builtin.zeroCells z.cells (cut - (q + m))) e) = wd.alloc (cl cs e) := congrArg (fun c => wd.alloc (.cells c e)) hcs
      have hsz : wd.heap.size = w.heap.size := rfl
      rw [← hrow]
      simp [Builtin.append_, run_underlying hu, run_underlying hu', sizeOf, typeInfo, zeroValue, hi, hi1, hi3, Builtin.lenOf, hz9, hroom, h63, hfit', Question.forced, hwd, hold', hn, hcut', newRow, hsz]
      congr 2; apply Array.ext'; simp
    · have h2 := (hsd0.alloc (cl cs e))
      have h3 : sat g (wd.alloc (cl cs e)) (R * pt w.heap.size (cl cs e)) := h2.drop2
      rw [hC]
      refine slb_iff.2 ⟨by rw [List.length_append]; omega, .inr ⟨w.heap.size, cut, cs, rfl, hcut, ?_, ?_, h3⟩⟩
      · simp only [cs, List.length_append, Array.length_toList, hrest]; omega
      · show List.take _ ((xs ++ ys) ++ _) = _
        exact List.take_left' (by rw [List.length_append]; omega)
theorem o_appendGZ {t t' e : TypeId} {x y : Operand} {v z : Value} {m k q bytes : Nat} {xs ys : List Value} {R : SP}
    (hu : P.underlying t = some (.slice e)) (hu' : P.underlying t' = some (.int .i64)) (hk : szE P e = some k) (hb : bytesE P e = some bytes) (hz : zeroE P e = some z) (hzk : z.cells.size = k) (hk0 : 0 < k) (hb0 : 0 < bytes)
    (hx : ev n ρ x = v) (hy : ev n ρ y = .int .i64 (m : Nat)) (hA : A = R * Sl k v q xs) (hys : (Builtin.zeroCells z.cells m).toList = ys) (hm1 : m ≠ 0) (hm : ys.length = m * k) (ho : ∀ u ∈ ys, oneC u = true) (hlim : (q + m) * bytes ≤ 140737488355328) :
    OpX P n ρ A ⟨dst, .call { callee := .builtin .append, args := #[x, y], argTypes := #[t, t'] }, ty, pos, after, gd⟩ (fun v' B => (∃ a' c', v = .slice a' q c' ∧ v' = .slice a' (q + m) c' ∧ q + m ≤ c' ∧ B = R * Sl k v' (q + m) (xs ++ ys)) ∨ B = R * Sl k v q xs * Sl k v' (q + m) (xs ++ ys)) := fun g w hs => by
  have hs0 := hs
  rw [hA] at hs0
  obtain ⟨hl, hcase⟩ := sl_iff.1 hs0
  obtain ⟨aa, cap, hv, hqc, _, hrd⟩ := sl_have hs0
  -- the run, but for the operation itself
  have key : ∀ (r : Value) (w' : World), (Builtin.append_ #[t, t'] ty #[v, .int .i64 (m : Nat)]).run P w = .ok r w' →
      (execOp (ev n ρ) ⟨dst, .call { callee := .builtin .append, args := #[x, y], argTypes := #[t, t'] }, ty, pos, after, gd⟩).run P w = .ok (.value r) w' := fun r w' h => by
    simp only [execOp, resolve, List.map_toArray, List.map_cons, List.map_nil, hx, hy]
    rw [run_bind (w' := w) (a := ⟨.builtin .append #[t, t'] ty _, #[v, .int .i64 (m : Nat)]⟩) (by rfl)]
    simp only [invoke, builtin]
    rw [run_bind h]; rfl
  have hold : (Builtin.firstCells k q (.slice aa q cap)).run P w = .ok xs.toArray w := run_firstCells hrd hl hs0
  have hz8 : Builtin.zeroCells z.cells m = ys.toArray := by rw [← hys]
  have hk1 : k ≠ 0 := by omega
  have hmb : m * 1 ≤ m * bytes := Nat.mul_le_mul_left _ hb0
  have hqb : m * bytes ≤ (q + m) * bytes := Nat.mul_le_mul_right _ (by omega)
  have hwr : IntKind.i64.wrap (m : Int) = m := wrap_i64 (by omega)
  have hneg : ¬ ((m : Int) < 0) := by omega
  have hbg : ¬ (281474976710656 < (m : Int) * (bytes : Int)) := by
    have : ((m * bytes : Nat) : Int) = (m : Int) * (bytes : Int) := by simp
    omega
  subst hv
  obtain ⟨i, hi, hi1, hi2, hi3⟩ := info_of hk hb hz
  have hmk : ¬ (m * k = 0) := fun e => by rcases Nat.mul_eq_zero.1 e with h | h <;> omega
  have hbgi : ¬ (281474976710656 < (m : Int) * (i.bytes : Int)) := by rw [hi2]; exact hbg
  by_cases hroom : q + m ≤ cap
  · -- there is room
    rcases hcase with ⟨e1, e2, hsR⟩ | ⟨b, off, cap', l, E, e1, e2, e3, e4, hsR⟩
    · simp only [Value.slice.injEq] at e1
      obtain ⟨rfl, rfl, rfl⟩ := e1
      have hm0 : m = 0 := by omega
      subst hm0
      have hy0 : ys = [] := by simpa using hm
      subst hy0
      refine ⟨.slice none 0 0, w, _, key _ _ ?_, ?_, .inl ⟨none, 0, rfl, rfl, by omega, rfl⟩⟩
      · exact absurd rfl hm1
      · rw [List.append_nil]; exact hs0
    · simp only [Value.slice.injEq] at e1
      obtain ⟨rfl, _, rfl⟩ := e1
      have hlen : off + q * k + ys.length ≤ l.length := by
        have : (q + m) * k ≤ cap * k := Nat.mul_le_mul_right k hroom
        rw [Nat.add_mul] at this
        omega
      obtain ⟨w', hst, hh, g1, g2, g3⟩ := run_storeCells (P := P) (off := off + q * k) ys 0 l w (has_here g w hsR) (by omega) ho
      refine ⟨.slice (some ⟨b, off, none⟩) (q + m) cap, w', _, key _ _ ?_, ?_, .inl ⟨_, _, rfl, rfl, hroom, rfl⟩⟩
      · skip
        simp [Builtin.append_, run_underlying hu, run_underlying hu', sizeOf, typeInfo, hi, hi1, asInt, asIntOf, hmk, hbgi, hwr, hneg, hbg, hi2, hi3, hm1, hk1, hz8, zeroValue, hroom, addr_add, hst]
      · have hu2 : Upd (R * pt b (cl l E)) b (cl l E) (cl (splice l (off + q * k) ys) E) (R * pt b (cl (splice l (off + q * k) ys) E)) := upd_here
        have hs2 := hu2.sat hsR (fun j => by rw [hh j]; rfl) g1 g2 g3
        refine sl_iff.2 ⟨by rw [List.length_append, hl, hm, Nat.add_mul], .inr ⟨b, off, cap, _, E, rfl, hroom, by rw [splice_length]; exact e3, ?_, hs2⟩⟩
        apply List.ext_getElem?
        intro i
        rw [List.getElem?_take, List.getElem?_append, List.getElem?_drop, splice_getElem? _ _ _ _ hlen, Nat.add_mul, ← hm, ← hl]
        have hx' : ∀ i, i < xs.length → l[off + i]? = xs[i]? := fun i hi => by
          rw [← e4, List.getElem?_take, if_pos (by rw [← hl]; exact hi), List.getElem?_drop]
        by_cases h1 : i < xs.length
        · rw [if_pos (by omega), if_neg (by omega), if_pos h1, hx' i h1]
        · by_cases h2 : i < xs.length + ys.length
          · rw [if_pos h2, if_pos (by omega), if_neg h1]; congr 1; omega
          · rw [if_neg h2, if_neg h1, List.getElem?_eq_none (by omega)]
  · -- it grows
    have hbig : cap < q + m := by omega
    have hfit := growslice_fits hbig hlim
    have p48 : (2 : Nat) ^ 48 = 281474976710656 := by decide
    let cut := (Question.appendCap (q + m) cap e).cut (w.tape w.drawn (.appendCap (q + m) cap e))
    have hcut : q + m ≤ cut := by show q + m ≤ (q + m) + _; omega
    let wd : World := { w with drawn := w.drawn + 1 }
    have hsd : sat g wd A := hs.draw rfl rfl rfl rfl
    have hsd0 : sat g wd (R * Sl k (.slice aa q cap) q xs) := hA ▸ hsd
    have hold' : (Builtin.firstCells k q (.slice aa q cap)).run P wd = .ok xs.toArray wd := run_firstCells hrd hl hsd0
    let rest := Builtin.zeroCells z.cells (cut - (q + m))
    have hrest : rest.size = (cut - (q + m)) * k := by show (Builtin.zeroCells z.cells (cut - (q + m))).size = _; rw [size_zeroCells, hzk]
    let cs := xs ++ ys ++ rest.toList
    have hcs : xs.toArray ++ ys.toArray ++ rest = cs.toArray := by apply Array.ext'; simp [cs]
    refine ⟨.slice (some ⟨w.heap.size, 0, none⟩) (q + m) cut, wd.alloc (cl cs e), _, key _ _ ?_, ?_, .inr rfl⟩
    · skip
      have h63 : ¬ (9223372036854775807 < ((q : Int) + (m : Int))) := by
        have : (q + m) * 1 ≤ (q + m) * bytes := Nat.mul_le_mul_left _ hb0
        omega
      have hfit' : ¬ (281474976710656 < Builtin.nextslicecap (q + m) cap * i.bytes) := by rw [hi2]; omega
      have hwd : w.drew = wd := rfl
      have hcut' : (Question.appendCap (q + m) cap e).cut (w.tape w.drawn (.appendCap (q + m) cap e)) = cut := rfl
      have hrow : wd.alloc (.cells (xs.toArray ++ ys.toArray ++ Builtin.zeroCells z.cells (cut - (q + m))) e) = wd.alloc (cl cs e) := congrArg (fun c => wd.alloc (.cells c e)) hcs
      have hsz : wd.heap.size = w.heap.size := rfl
      rw [← hrow]
      simp [Builtin.append_, run_underlying hu, run_underlying hu', sizeOf, typeInfo, zeroValue, hi, hi1, hi3, asInt, asIntOf, hmk, hbgi, hwr, hneg, hbg, hm1, hk1, hz8, hroom, h63, hfit', Question.forced, hwd, hold', hcut', newRow, hsz]
      congr 2; apply Array.ext'; simp
    · have := hsd0.alloc (cl cs e)
      refine sl_new this hcut ?_ ?_
      · simp only [cs, List.length_append, Array.length_toList, hrest, hl, hm, ← Nat.add_mul]
        rw [Nat.add_sub_cancel' hcut]; exact Nat.le_refl _
      · have : (q + m) * k = (xs ++ ys).length := by rw [List.length_append, hl, hm, Nat.add_mul]
        rw [this]
        show List.take _ ((xs ++ ys) ++ _) = _
        rw [List.take_left]
theorem o_appendZ {t t' e : TypeId} {x y : Operand} {v z : Value} {m k q bytes : Nat} {xs ys : List Value} {R : SP}
    (hu : P.underlying t = some (.slice e)) (hu' : P.underlying t' = some (.int .i64)) (hk : szE P e = some k) (hb : bytesE P e = some bytes) (hz : zeroE P e = some z) (hzk : z.cells.size = k) (hk0 : 0 < k) (hb0 : 0 < bytes)
    (hx : ev n ρ x = v) (hy : ev n ρ y = .int .i64 (m : Nat)) (hA : A = R * Sl k v q xs) (hys : (Builtin.zeroCells z.cells m).toList = ys) (hm1 : m ≠ 0) (hm : ys.length = m * k) (ho : ∀ u ∈ ys, oneC u = true) (hlim : (q + m) * bytes ≤ 140737488355328) :
    OpX P n ρ A ⟨dst, .call { callee := .builtin .append, args := #[x, y], argTypes := #[t, t'] }, ty, pos, after, gd⟩ (fun v' B => B = R * Sl k v' (q + m) (xs ++ ys)) := fun g w hs => by
  obtain ⟨v', w', B, h1, h2, ⟨_, _, _, _, _, rfl⟩ | rfl⟩ := o_appendGZ (dst := dst) (ty := ty) (pos := pos) (after := after) (gd := gd) hu hu' hk hb hz hzk hk0 hb0 hx hy hA hys hm1 hm ho hlim g w hs
  · exact ⟨v', w', _, h1, h2, rfl⟩
  · refine ⟨v', w', _, h1, ?_, rfl⟩
    rw [star_assoc, star_comm (Sl k v q xs), ← star_assoc] at h2
    exact h2.left
theorem wrap0 : IntKind.i64.wrap 0 = 0 := by decide
/-- append of zeros to an owned slice. -/
theorem o_apRZ {t t' e : TypeId} {x y : Operand} {z : Value} {m k q bytes c0 : Nat} {a : Option Addr} {xs ys zs : List Value} {R : SP} {C : SP → SP}
    (hu : P.underlying t = some (.slice e)) (hu' : P.underlying t' = some (.int .i64)) (hk : szE P e = some k) (hb : bytesE P e = some bytes) (hz : zeroE P e = some z) (hzk : z.cells.size = k) (hk0 : 0 < k) (hb0 : 0 < bytes)
    (hx : ev n ρ x = .slice a q c0) (hy : ev n ρ y = .int .i64 (m : Nat)) (hf : Ct A (Sl k (.slice a q c0) q xs) R C) (hys : (Builtin.zeroCells z.cells m).toList = ys) (hm : ys.length = m * k) (ho : ys.all oneC = true) (hlim : (q + m) * bytes ≤ 140737488355328) (he : xs ++ ys = zs) :
    OpX P n ρ A ⟨dst, .call { callee := .builtin .append, args := #[x, y], argTypes := #[t, t'] }, ty, pos, after, gd⟩ (fun v' B => ∃ a' c', v' = .slice a' (q + m) c' ∧ q + m ≤ c' ∧ B = C (Sl k (.slice a' (q + m) c') (q + m) zs)) := fun g w hs => by
  subst he
  obtain ⟨rfl, hC⟩ := hf
  by_cases hm1 : m = 0
  · subst hm1
    have hy0 : ys = [] := List.eq_nil_of_length_eq_zero (by rw [hm]; omega)
    subst hy0
    obtain ⟨a', c', hv, h1, _⟩ := sl_have hs
    simp only [Value.slice.injEq, true_and] at hv
    obtain ⟨rfl, rfl⟩ := hv
    obtain ⟨i, hi, hi1, hi2, hi3⟩ := info_of hk hb hz
    refine ⟨.slice a q c0, w, _, ?_, ?_, a, c0, rfl, h1, rfl⟩
    · simp only [execOp, resolve, List.map_toArray, List.map_cons, List.map_nil, hx, hy]
      rw [run_bind (w' := w) (a := ⟨.builtin .append #[t, t'] ty _, #[.slice a q c0, .int .i64 ((0 : Nat) : Int)]⟩) (by rfl)]
      simp only [invoke, builtin]
      rw [run_bind (a := .slice a q c0) (w' := w)]
      · rfl
      · cases a <;> simp [Builtin.append_, run_underlying hu, run_underlying hu', sizeOf, typeInfo, hi, hi1, asInt, asIntOf, h1, wrap0, storeCells] <;> rfl
    · rw [hC, List.append_nil]; exact hs
  · obtain ⟨v', w', B, hr, hB, rfl⟩ := o_appendZ (dst := dst) (ty := ty) (pos := pos) (after := after) (gd := gd) hu hu' hk hb hz hzk hk0 hb0 hx hy rfl hys hm1 hm (fun u hu => List.all_eq_true.1 ho u hu) hlim g w hs
    obtain ⟨a', c', rfl, h1, _⟩ := sl_have hB
    exact ⟨_, w', _, hr, hB, a', c', rfl, h1, (hC _).symm⟩
theorem zrepB (m : Nat) : (Builtin.zeroCells #[Value.int .u8 0] m).toList = bys (List.replicate m 0) := by
  unfold Builtin.zeroCells bys
  refine List.ext_getElem (by simp) fun i h1 h2 => ?_
  simp [b8, Nat.mod_one]
end
end Go.Vl

namespace Go.Vl
open Go Go.Proofs
section
variable {P : Program} {n : Nat} {ρ : Env} {A : SP} {dst : Option Tmp} {ty : TypeId} {pos : String} {after : Array Edge} {gd : Option (Nat × Bool)}
theorem o_usd {x : Operand} {tys : Array TypeId} {a : Option Addr} {m c : Nat} (hx : ev n ρ x = .slice a m c) (hc : a = none ∨ c ≠ 0) :
    OpV P n ρ A ⟨dst, .call { callee := .builtin .unsafeSliceData, args := #[x], argTypes := tys }, ty, pos, after, gd⟩ (.pointer a) := opv_of fun w => by
  simp only [execOp, resolve, List.map_toArray, List.map_cons, List.map_nil, hx]
  rw [run_bind (w' := w) (a := ⟨.builtin .unsafeSliceData tys ty _, #[.slice a m c]⟩) (by rfl)]
  simp only [invoke, builtin]
  rw [run_bind (w' := w) (a := .pointer a)]
  · rfl
  cases a with
  | none => exact Lib.run_unsafeSliceData_nil w tys ty m c
  | some p => exact Lib.run_unsafeSliceData_row w tys ty p m c (by rcases hc with h | h; cases h; exact h)
theorem o_ustr0 {x y : Operand} {pt' it : TypeId} {a : Option Addr} (hx : ev n ρ x = .pointer a) (hy : ev n ρ y = .int .i64 0) :
    OpV P n ρ A ⟨dst, .call { callee := .builtin .unsafeString, args := #[x, y], argTypes := #[pt', it] }, ty, pos, after, gd⟩ (.string .empty) := opv_of fun w => by
  simp only [execOp, resolve, List.map_toArray, List.map_cons, List.map_nil, hx, hy]
  rw [run_bind (w' := w) (a := ⟨.builtin .unsafeString #[pt', it] ty _, #[.pointer a, .int .i64 0]⟩) (by rfl)]
  simp only [invoke, builtin]
  rw [run_bind (w' := w) (a := .string .empty)]
  · rfl
  exact Lib.run_unsafeString_none w pt' it ty a
theorem o_ustr {x y : Operand} {pt' it e : TypeId} {b m c : Nat} {xs : List Nat} {R : SP} (hp : P.underlying pt' = some (.pointer e)) (hc : P.cellsOf e = 1) (hx : ev n ρ x = .pointer (some ⟨b, 0, none⟩)) (hy : ev n ρ y = .int .i64 (m : Nat))
    (hf : A = R * SlB e (.slice (some ⟨b, 0, none⟩) m c) m (bys xs)) (hb : ∀ x ∈ xs, x < 256) (h0 : 0 < m) (h63 : m ≤ 1125899906842624) :
    OpX P n ρ A ⟨dst, .call { callee := .builtin .unsafeString, args := #[x, y], argTypes := #[pt', it] }, ty, pos, after, gd⟩ (fun v B => v = .string (sob xs) ∧ B = R) := fun g w hs => by
  subst hf
  obtain ⟨hl, ⟨e1, _⟩ | ⟨b', cap, l, e1, h1, h2, h3, hs'⟩⟩ := slb_iff.1 hs
  · cases e1
  simp only [Value.slice.injEq, Option.some.injEq, Addr.mk.injEq, and_true, true_and] at e1
  obtain ⟨rfl, rfl⟩ := e1
  rw [bys_length] at hl
  have hh := has_here g w hs'
  have hfz := Lib.run_unsafeString_row (P := P) w pt' it ty e hp hc b l.length (by unfold World.shape?; rw [hh]; simp [cl]) (xs.map fun n => UInt8.ofNat n) (by intro h; simp at h; subst h; simp at hl; omega) (by simp; omega) (by simp; omega) (fun j x hj => by
    rw [List.getElem?_map] at hj
    cases hxj : xs[j]? with
    | none => rw [hxj] at hj; cases hj
    | some k =>
      rw [hxj] at hj
      simp only [Option.map_some, Option.some.injEq] at hj
      subst hj
      have hk : k < 256 := hb k (List.mem_of_getElem? hxj)
      have hjl : j < m := by have := (List.getElem?_eq_some_iff.1 hxj).1; omega
      rw [addr_add, Nat.zero_add, cell_cl hh]
      have h4 := congrArg (fun l : List Value => l[j]?) h3
      simp only [List.getElem?_take, if_pos hjl] at h4
      rw [h4]
      unfold bys b8
      rw [List.getElem?_map, hxj]
      simp [Nat.mod_eq_of_lt hk])
  have hlm : (xs.map fun n => UInt8.ofNat n).length = m := by rw [List.length_map]; exact hl
  rw [hlm] at hfz
  refine ⟨_, w.freeze ⟨b, 0, none⟩ m, R, ?_, ?_, rfl, rfl⟩
  · simp only [execOp, resolve, List.map_toArray, List.map_cons, List.map_nil, hx, hy]
    rw [run_bind (w' := w) (a := ⟨.builtin .unsafeString #[pt', it] ty _, #[.pointer (some ⟨b, 0, none⟩), .int .i64 (m : Nat)]⟩) (by rfl)]
    simp only [invoke, builtin]
    rw [run_bind hfz]; rfl
  · have hu : Upd (R * pt b (cl l e)) b (cl l e) (.cells l.toArray e (0, 0 + m)) (R * pt b (.cells l.toArray e (0, 0 + m))) := upd_here
    have h5 : sat g (w.freeze ⟨b, 0, none⟩ m) (R * pt b (.cells l.toArray e (0, 0 + m))) := hu.sat hs' (fun k => by
      unfold World.freeze
      rw [if_neg (by omega)]
      show (w.heap.modify b _)[k]? = _
      rw [Array.getElem?_modify]
      by_cases hk : b = k
      · subst hk; rw [if_pos rfl, if_pos rfl, hh]; simp [cl]
      · rw [if_neg hk, if_neg (Ne.symm hk)]) (by unfold World.freeze; split <;> rfl) (by unfold World.freeze; split <;> rfl) (by unfold World.freeze; split <;> rfl)
    exact h5.left
end
def bdc (p v : Value) : List Value := [p, v]
attribute [local irreducible] Sl pt ro SlB
theorem cc0_f (F : SP) {b : Nat} {v : Value} :
    Fn Tryz.prog 203 #[.pointer (some ⟨b, 0, none⟩)] (F * pt b (cl [.pointer none, v] 217)) (fun r B => r = .tuple #[] ∧ B = F * pt b (cl [.pointer (some ⟨b, 0, none⟩), v] 217)) := by
  refine fn_enterW (args := [.pointer (some ⟨b, 0, none⟩)]) Tryz.func203 rfl Tryz.ntmps203 (by simp) ?_
  obtain ⟨jb, hj1, hj2, _, _⟩ := info_of sz217 by217 z217
  refine sr ?_; refine tlm ?_; refine tv (o_nilCheck rfl) ?_; refine tv (o_fieldAddr (o := 0) Tryz.underlying217 rfl rfl sz215 rfl) ?_; refine tv (by first | exact o_load p215 rfl (by repeat (first | with_reducible exact has_here | with_reducible exact has_pt | apply has_left)) rfl | exact o_loadC p215 rfl (by assumption)) ?_; refine tv (o_eqp Tryz.underlying215 rfl rfl) ?_; refine nq ?_; refine tc_cond rfl (fun h => ?_) (fun h => ?_)
  · try simp only [lv1, lv2, lv3, lv4, lv5, lv6, Bool.not_true, Bool.not_false] at h
    refine tc_reg ?_; refine tlm ?_; refine tlm ?_; refine tv (o_toU Tryz.underlying215 Tryz.underlying308 hj1 (by omega) rfl (by repeat (first | exact has_here | apply has_left)) (by show 0 < 2; decide)) ?_; refine tv (o_noEsc Tryz.func241 (by kernel_rfl) (by kernel_rfl) (by kernel_rfl) (by kernel_rfl) rfl) ?_; refine tv (o_fromU Tryz.underlying308 Tryz.underlying215 hj1 rfl (by repeat (first | exact has_here | apply has_left)) (by kernel_rfl)) ?_; refine tv (o_nilCheck rfl) ?_; refine tv (o_fieldAddr (o := 0) Tryz.underlying217 rfl rfl sz215 rfl) ?_; refine tl_u rfl (o_stU rfl (by repeat (first | with_reducible exact upd_here | with_reducible exact upd_pt | apply upd_left)) sz215 rfl rfl (by first | decide | simp | omega) rfl) ?_; refine tl_nil ?_; exact ⟨.tuple #[], F * pt b (cl [.pointer (some ⟨b, 0, none⟩), v] 217), res0 rfl, Dr.sat (by repeat (first | with_reducible exact dr_refl | apply dr_keep | apply dr_drop)), rfl, rfl⟩
  · (exfalso; first | (revert h; simp; done) | (simp at h; done) | (revert h; simp; omega) | (simp at h; omega) | omega)
theorem cc1_f (F : SP) {b : Nat} {v : Value} :
    Fn Tryz.prog 203 #[.pointer (some ⟨b, 0, none⟩)] (F * pt b (cl [.pointer (some ⟨b, 0, none⟩), v] 217)) (fun r B => r = .tuple #[] ∧ B = F * pt b (cl [.pointer (some ⟨b, 0, none⟩), v] 217)) := by
  refine fn_enterW (args := [.pointer (some ⟨b, 0, none⟩)]) Tryz.func203 rfl Tryz.ntmps203 (by simp) ?_
  obtain ⟨jb, hj1, hj2, _, _⟩ := info_of sz217 by217 z217
  refine sr ?_; refine tlm ?_; refine tv (o_nilCheck rfl) ?_; refine tv (o_fieldAddr (o := 0) Tryz.underlying217 rfl rfl sz215 rfl) ?_; refine tv (by first | exact o_load p215 rfl (by repeat (first | with_reducible exact has_here | with_reducible exact has_pt | apply has_left)) rfl | exact o_loadC p215 rfl (by assumption)) ?_; refine tv (o_eqp Tryz.underlying215 rfl rfl) ?_; refine nq ?_; refine tc_cond rfl (fun h => ?_) (fun h => ?_)
  · (exfalso; first | (revert h; simp; done) | (simp at h; done) | (revert h; simp; omega) | (simp at h; omega) | omega)
  · try simp only [lv1, lv2, lv3, lv4, lv5, lv6, Bool.not_true, Bool.not_false] at h
    refine sr ?_; refine tlm ?_; refine tv (o_nilCheck rfl) ?_; refine tv (o_fieldAddr (o := 0) Tryz.underlying217 rfl rfl sz215 rfl) ?_; refine tv (by first | exact o_load p215 rfl (by repeat (first | with_reducible exact has_here | with_reducible exact has_pt | apply has_left)) rfl | exact o_loadC p215 rfl (by assumption)) ?_; refine tlm ?_; refine tv (o_nepS Tryz.underlying215 hj1 (by kernel_rfl) rfl rfl) ?_; refine nq ?_; refine tc_cond rfl (fun h => ?_) (fun h => ?_)
    · (exfalso; first | (revert h; simp; done) | (simp at h; done) | (revert h; simp; omega) | (simp at h; omega) | omega)
    · try simp only [lv1, lv2, lv3, lv4, lv5, lv6, Bool.not_true, Bool.not_false] at h
      refine tc_skip ?_; exact ⟨.tuple #[], F * pt b (cl [.pointer (some ⟨b, 0, none⟩), v] 217), res0 rfl, Dr.sat (by repeat (first | with_reducible exact dr_refl | apply dr_keep | apply dr_drop)), rfl, rfl⟩
theorem cc_f (F : SP) {b : Nat} {p v : Value} (hp : p = .pointer none ∨ p = .pointer (some ⟨b, 0, none⟩)) : Fn Tryz.prog 203 #[.pointer (some ⟨b, 0, none⟩)] (F * pt b (cl [p, v] 217)) (fun r B => r = .tuple #[] ∧ B = F * pt b (cl [.pointer (some ⟨b, 0, none⟩), v] 217)) := by
  rcases hp with rfl | rfl
  · exact cc0_f F
  · exact cc1_f F
theorem bs0_f (F : SP) {b c : Nat} {p : Value} :
    Fn Tryz.prog 149 #[.pointer (some ⟨b, 0, none⟩)] (F * pt b (cl [p, .slice none 0 c] 217)) (fun r B => r = .string .empty ∧ B = F) := by
  refine fn_enterW (args := [.pointer (some ⟨b, 0, none⟩)]) Tryz.func149 rfl Tryz.ntmps149 (by simp) ?_; refine sr ?_; refine tla ?_; refine nq ?_; refine tc_seq ?_; refine tc_regh mo dr_refl ?_
  show TH _ _ _ _ _ 12 #[ff,ff,ff,ff,ff,ff,ff,ff,ff,ff,ff,ff] _ _
  refine th_take (i := 0) (listed' := #[tt,ff,ff,ff,ff,ff,ff,ff,ff,ff,ff,ff]) rfl (by kernel_rfl) (by kernel_rfl) (by kernel_rfl) rfl rfl (o_move (by conv => lhs; whnf)) ?_; refine th_take (i := 1) (listed' := #[tt,tt,ff,ff,ff,ff,ff,ff,ff,ff,ff,ff]) rfl (by kernel_rfl) (by kernel_rfl) (by kernel_rfl) rfl rfl (o_nilCheck rfl) ?_; refine th_take (i := 2) (listed' := #[tt,tt,tt,ff,ff,ff,ff,ff,ff,ff,ff,ff]) rfl (by kernel_rfl) (by kernel_rfl) (by kernel_rfl) rfl rfl (o_fieldAddr (o := 1) Tryz.underlying217 rfl rfl sz57 rfl) ?_; refine th_take (i := 3) (listed' := #[tt,tt,tt,tt,ff,ff,ff,ff,ff,ff,ff,ff]) rfl (by kernel_rfl) (by kernel_rfl) (by kernel_rfl) rfl rfl (by first | exact o_load p57 rfl (by repeat (first | with_reducible exact has_here | with_reducible exact has_pt | apply has_left)) rfl | exact o_loadC p57 rfl (by assumption)) ?_; refine th_take (i := 4) (listed' := #[tt,tt,tt,tt,tt,ff,ff,ff,ff,ff,ff,ff]) rfl (by kernel_rfl) (by kernel_rfl) (by kernel_rfl) rfl rfl (o_usd rfl (.inl rfl)) ?_; refine th_take (i := 5) (listed' := #[tt,tt,tt,tt,tt,tt,ff,ff,ff,ff,ff,ff]) rfl (by kernel_rfl) (by kernel_rfl) (by kernel_rfl) rfl rfl (o_move (by conv => lhs; whnf)) ?_; refine th_take (i := 6) (listed' := #[tt,tt,tt,tt,tt,tt,tt,ff,ff,ff,ff,ff]) rfl (by kernel_rfl) (by kernel_rfl) (by kernel_rfl) rfl rfl (o_nilCheck rfl) ?_; refine th_take (i := 7) (listed' := #[tt,tt,tt,tt,tt,tt,tt,tt,ff,ff,ff,ff]) rfl (by kernel_rfl) (by kernel_rfl) (by kernel_rfl) rfl rfl (o_fieldAddr (o := 1) Tryz.underlying217 rfl rfl sz57 rfl) ?_
  refine th_take (i := 8) (listed' := #[tt,tt,tt,tt,tt,tt,tt,tt,tt,ff,ff,ff]) rfl (by kernel_rfl) (by kernel_rfl) (by kernel_rfl) rfl rfl (by first | exact o_load p57 rfl (by repeat (first | with_reducible exact has_here | with_reducible exact has_pt | apply has_left)) rfl | exact o_loadC p57 rfl (by assumption)) ?_; refine th_take (i := 9) (listed' := #[tt,tt,tt,tt,tt,tt,tt,tt,tt,tt,ff,ff]) rfl (by kernel_rfl) (by kernel_rfl) (by kernel_rfl) rfl rfl (o_len Tryz.underlying57 rfl) ?_; refine th_take (i := 10) (listed' := #[tt,tt,tt,tt,tt,tt,tt,tt,tt,tt,tt,ff]) rfl (by kernel_rfl) (by kernel_rfl) (by kernel_rfl) rfl rfl (o_ustr0 rfl rfl) ?_; refine th_take (i := 11) (listed' := #[tt,tt,tt,tt,tt,tt,tt,tt,tt,tt,tt,tt]) rfl (by kernel_rfl) (by kernel_rfl) (by kernel_rfl) rfl rfl (o_assign (by conv => lhs; whnf)) ?_; refine th_done (by kernel_rfl) ?_; refine q_then_n ?_; refine tc_ret ?_; refine ⟨.string .empty, _, res1 rfl rfl, ?_, rfl, rfl⟩; exact Dr.sat (by repeat (first | with_reducible exact dr_refl | apply dr_keep | apply dr_drop))
theorem bs1_f (F : SP) {b b2 n c : Nat} {p : Value} {xs : List Nat} (hn : 0 < n) (hc : n ≤ c) (hb : ∀ x ∈ xs, x < 256) (hl : n ≤ 1099511627776) :
    Fn Tryz.prog 149 #[.pointer (some ⟨b, 0, none⟩)] (F * pt b (cl [p, .slice (some ⟨b2, 0, none⟩) n c] 217) * SlB 5 (.slice (some ⟨b2, 0, none⟩) n c) n (bys xs)) (fun r B => r = .string (sob xs) ∧ B = F) := by
  refine fn_enterW (args := [.pointer (some ⟨b, 0, none⟩)]) Tryz.func149 rfl Tryz.ntmps149 (by simp) ?_; refine sr ?_; refine tla ?_; refine nq ?_; refine tc_seq ?_; refine tc_regh (S := F * pt b (cl [p, .slice (some ⟨b2, 0, none⟩) n c] 217)) mo (by repeat (first | with_reducible exact dr_refl | apply dr_keep | apply dr_drop)) ?_
  show TH _ _ _ _ _ 12 #[ff,ff,ff,ff,ff,ff,ff,ff,ff,ff,ff,ff] _ _
  refine th_take (i := 0) (listed' := #[tt,ff,ff,ff,ff,ff,ff,ff,ff,ff,ff,ff]) rfl (by kernel_rfl) (by kernel_rfl) (by kernel_rfl) rfl rfl (o_move (by conv => lhs; whnf)) ?_; refine th_take (i := 1) (listed' := #[tt,tt,ff,ff,ff,ff,ff,ff,ff,ff,ff,ff]) rfl (by kernel_rfl) (by kernel_rfl) (by kernel_rfl) rfl rfl (o_nilCheck rfl) ?_; refine th_take (i := 2) (listed' := #[tt,tt,tt,ff,ff,ff,ff,ff,ff,ff,ff,ff]) rfl (by kernel_rfl) (by kernel_rfl) (by kernel_rfl) rfl rfl (o_fieldAddr (o := 1) Tryz.underlying217 rfl rfl sz57 rfl) ?_; refine th_take (i := 3) (listed' := #[tt,tt,tt,tt,ff,ff,ff,ff,ff,ff,ff,ff]) rfl (by kernel_rfl) (by kernel_rfl) (by kernel_rfl) rfl rfl (by first | exact o_load p57 rfl (by repeat (first | with_reducible exact has_here | with_reducible exact has_pt | apply has_left)) rfl | exact o_loadC p57 rfl (by assumption)) ?_; refine th_take (i := 4) (listed' := #[tt,tt,tt,tt,tt,ff,ff,ff,ff,ff,ff,ff]) rfl (by kernel_rfl) (by kernel_rfl) (by kernel_rfl) rfl rfl (o_usd rfl (.inr (by omega))) ?_; refine th_take (i := 5) (listed' := #[tt,tt,tt,tt,tt,tt,ff,ff,ff,ff,ff,ff]) rfl (by kernel_rfl) (by kernel_rfl) (by kernel_rfl) rfl rfl (o_move (by conv => lhs; whnf)) ?_; refine th_take (i := 6) (listed' := #[tt,tt,tt,tt,tt,tt,tt,ff,ff,ff,ff,ff]) rfl (by kernel_rfl) (by kernel_rfl) (by kernel_rfl) rfl rfl (o_nilCheck rfl) ?_; refine th_take (i := 7) (listed' := #[tt,tt,tt,tt,tt,tt,tt,tt,ff,ff,ff,ff]) rfl (by kernel_rfl) (by kernel_rfl) (by kernel_rfl) rfl rfl (o_fieldAddr (o := 1) Tryz.underlying217 rfl rfl sz57 rfl) ?_
  refine th_take (i := 8) (listed' := #[tt,tt,tt,tt,tt,tt,tt,tt,tt,ff,ff,ff]) rfl (by kernel_rfl) (by kernel_rfl) (by kernel_rfl) rfl rfl (by first | exact o_load p57 rfl (by repeat (first | with_reducible exact has_here | with_reducible exact has_pt | apply has_left)) rfl | exact o_loadC p57 rfl (by assumption)) ?_; refine th_take (i := 9) (listed' := #[tt,tt,tt,tt,tt,tt,tt,tt,tt,tt,ff,ff]) rfl (by kernel_rfl) (by kernel_rfl) (by kernel_rfl) rfl rfl (o_len Tryz.underlying57 rfl) ?_; refine th_one (i := 10) (by kernel_rfl) ?_; refine oh_x (i := 10) (listed' := #[tt,tt,tt,tt,tt,tt,tt,tt,tt,tt,tt,ff]) rfl rfl rfl (o_ustr Tryz.underlying278 (by kernel_rfl) rfl rfl rfl hb hn (by omega)) ?_; rintro _ _ ⟨rfl, rfl⟩; refine ⟨by repeat (first | with_reducible exact dr_refl | apply dr_keep | apply dr_drop), ?_⟩; refine th_take (i := 11) (listed' := #[tt,tt,tt,tt,tt,tt,tt,tt,tt,tt,tt,tt]) rfl (by kernel_rfl) (by kernel_rfl) (by kernel_rfl) rfl rfl (o_assign (by conv => lhs; whnf)) ?_; refine th_done (by kernel_rfl) ?_; refine q_then_n ?_; refine tc_ret ?_; refine ⟨.string (sob xs), _, res1 rfl rfl, ?_, rfl, rfl⟩; exact Dr.sat (by repeat (first | with_reducible exact dr_refl | apply dr_keep | apply dr_drop))
theorem bs_f (F : SP) {b n c : Nat} {a : Option Addr} {p : Value} {xs : List Nat} (hx : xs.length = n) (h0 : 0 < n ∨ a = none) (hb : ∀ x ∈ xs, x < 256) (hl : n ≤ 1099511627776) :
    Fn Tryz.prog 149 #[.pointer (some ⟨b, 0, none⟩)] (F * pt b (cl [p, .slice a n c] 217) * SlB 5 (.slice a n c) n (bys xs)) (fun r B => r = .string (sob xs) ∧ B = F) := fun g w hs => by
  obtain ⟨h1, ⟨e1, e2, hs'⟩ | ⟨b2, cap, l, e1, h2, h3, h4, hs'⟩⟩ := slb_iff.1 hs
  · simp only [Value.slice.injEq] at e1
    obtain ⟨rfl, rfl, rfl⟩ := e1
    have : xs = [] := List.eq_nil_of_length_eq_zero hx
    subst this
    exact bs0_f F g w hs'
  · simp only [Value.slice.injEq, true_and] at e1
    obtain ⟨rfl, rfl⟩ := e1
    rcases h0 with h0 | h0
    · exact bs1_f F h0 h2 hb hl g w hs
    · cases h0
end Go.Vl

namespace Go.Vl
open Go Go.Proofs
theorem o_maxZ {P : Program} {n : Nat} {ρ : Env} {A : SP} {dst : Option Tmp} {ty t t' : TypeId} {pos : String} {after : Array Edge} {gd : Option (Nat × Bool)} {x y : Operand} {a : Int} (hu : P.underlying ty = some (.int .i64)) (hx : ev n ρ x = .int .i64 a) (hy : ev n ρ y = .int .i64 0) :
    OpV P n ρ A ⟨dst, .call { callee := .builtin .max, args := #[x, y], argTypes := #[t, t'] }, ty, pos, after, gd⟩ (.int .i64 ((a.toNat : Nat) : Int)) := fun g w hs => by
  simp only [execOp, resolve, List.map_toArray, List.map_cons, List.map_nil, hx, hy]
  rw [run_bind (w' := w) (a := ⟨.builtin .max #[t, t'] ty _, #[.int .i64 a, .int .i64 0]⟩) (by rfl)]
  simp only [invoke, builtin]
  rw [run_bind (w' := w) (a := .int .i64 ((a.toNat : Nat) : Int))]
  · rfl
  have e : (if (0 : Int) > a then (0 : Int) else a) = ((a.toNat : Nat) : Int) := by split <;> omega
  simp only [gt_iff_lt] at e
  simp [Builtin.max_, Builtin.max2, List.foldlM, Sem.run_bind, ← e]
theorem blkS_app (nx : Nat) (xs : List Nat) : bys ([] ++ le 4 nx ++ le 2 xs.length ++ le 2 0) ++ bys xs = bys (le 4 nx ++ le 2 xs.length ++ le 2 0 ++ xs) := by rw [← bys_append, List.nil_append]
theorem blkS_app2 (nx : Nat) (xs : List Nat) : bys (le 4 nx ++ le 2 xs.length ++ le 2 0 ++ xs) ++ bys (List.replicate (248 - xs.length) 0) = bys (blkS nx xs) := by rw [← bys_append]; rfl
attribute [local irreducible] crk crL crc Sl pt ro Dev imgS recS readS recsF rdW rdO rkT Parts rvl recordsS runsL adrF kcl xcl kys runA runsF layF ovF TxA adZ WkA SlB blkS conB
theorem bws_f (F : SP) {b n c m : Nat} {a : Option Addr} {p : Value} {xs : List Nat} {s : ByteArray} (hp : p = .pointer none ∨ p = .pointer (some ⟨b, 0, none⟩)) (hm : s.size = m) (hx : xs.length = n) (hl : n + m ≤ 1099511627776) :
    Fn Tryz.prog 148 #[.pointer (some ⟨b, 0, none⟩), .string s] (F * pt b (cl [p, .slice a n c] 217) * SlB 5 (.slice a n c) n (bys xs)) (fun r B => ∃ a3 c3, r = .tuple #[.int .i64 (m : Nat), .nilIface] ∧ B = F * pt b (cl [.pointer (some ⟨b, 0, none⟩), .slice a3 (n + m) c3] 217) * SlB 5 (.slice a3 (n + m) c3) (n + m) (bys (xs ++ sbys s))) := by
  refine fn_enterW (args := [.pointer (some ⟨b, 0, none⟩), .string s]) Tryz.func148 rfl Tryz.ntmps148 (by simp) ?_; refine sr ?_; refine tla ?_; refine tla ?_; refine nq ?_; refine sr ?_; refine tlm ?_; refine tl_c rfl (o_call bd203 rfl (fn_eq (star_swap _ _ _) (cc_f (F * SlB 5 (.slice a n c) n (bys xs)) hp))) ?_; rintro _ _ ⟨rfl, rfl⟩; refine nq ?_; refine sr ?_; refine tlm ?_; refine tlm ?_; refine tv (o_nilCheck rfl) ?_; refine tv (o_fieldAddr (o := 1) Tryz.underlying217 rfl rfl sz57 rfl) ?_; refine tv (by first | exact o_load p57 rfl (by repeat (first | with_reducible exact has_here | with_reducible exact has_pt | apply has_left)) rfl | exact o_loadC p57 rfl (by assumption)) ?_; refine tlm ?_; refine tl_x rfl (o_apSBS Tryz.underlying57 Tryz.underlying9 sz5 by5 z5 rfl (by decide) rfl rfl (by repeat (first | with_reducible exact ct_here | apply ct_left)) rfl hm (by rw [bys_length, sbys_len]; exact hm) (bys_all _) (by omega)) ?_; rintro _ _ ⟨a14, c14, rfl, rfl⟩; refine tv (o_nilCheck rfl) ?_; refine tv (o_fieldAddr (o := 1) Tryz.underlying217 rfl rfl sz57 rfl) ?_; refine tl_u rfl (o_stU rfl (by repeat (first | with_reducible exact upd_here | with_reducible exact upd_pt | apply upd_left)) sz57 rfl rfl (by first | decide | simp | omega) rfl) ?_; refine nq ?_; refine sr ?_; refine tlm ?_; refine tv (o_lenS Tryz.underlying9 rfl) ?_
  refine tla ?_; refine tla ?_; refine nq ?_; refine tc_ret ?_
  rw [← bys_append]
  subst hm
  exact ⟨.tuple #[.int .i64 (s.size : Nat), .nilIface], F * pt b (cl [.pointer (some ⟨b, 0, none⟩), .slice a14 (n + s.size) c14] 217) * SlB 5 (.slice a14 (n + s.size) c14) (n + s.size) (bys (xs ++ sbys s)), res2 rfl rfl rfl, fun _ _ h => h.perm (by ac_rfl), a14, c14, rfl, rfl⟩
theorem NeedB_c {A : SP} {n : Int} (hn : -9223372036854775808 ≤ n ∧ n ≤ 9223372036854775807 := by omega) :
    Fn Tryz.prog 11 #[.int .i64 n] (A) (fun r B => r = .int .i64 ((nblk n.toNat : Nat) : Int) ∧ A = B) := by
  refine fn_enterW (args := [.int .i64 n]) Tryz.func11 rfl Tryz.ntmps11 (by simp) ?_
  obtain ⟨q, hq⟩ : ∃ q : Nat, n.toNat = q := ⟨_, rfl⟩
  have hqb : q ≤ 9223372036854775807 := by omega
  refine sr ?_; refine tla ?_; refine nq ?_; refine sr ?_; refine tlm ?_; refine tv (o_maxZ Tryz.underlying3 rfl rfl) ?_; refine tl_env (d := 5) (v := .int .i64 ((q : Nat) : Int)) (by show Value.int .i64 _ = _; rw [hq]) ?_; refine tla ?_; refine nq ?_; refine sr ?_; refine tlm ?_; refine tv (by first | exact o_quoI rfl rfl (by omega) | exact o_quo rfl rfl (by omega)) ?_; refine tla ?_; refine nq ?_; refine tc_seq ?_; refine sr ?_; refine tlm ?_; refine tv (by first | exact o_remI rfl rfl (by omega) | exact o_rem rfl rfl (by omega)) ?_; refine tv (o_gtr rfl rfl) ?_; refine nq ?_; refine tc_cond rfl (fun h => ?_) (fun h => ?_)
  · try simp only [lv1, lv2, lv3, lv4, lv5, lv6, Bool.not_true, Bool.not_false] at h
    refine tc_reg ?_; refine tlm ?_; refine tv (by first | exact o_addI rfl rfl (by omega) | exact o_add rfl rfl) ?_; refine tla ?_; refine nq ?_; refine sr ?_; refine tlm ?_; refine tla ?_; refine nq ?_; refine tc_ret ?_
    have e : nblk n.toNat = q / 248 + 1 := by unfold nblk; rw [hq]; exact if_neg (by omega)
    rw [e]
    exact ⟨.int .i64 ((q / 248 + 1 : Nat) : Int), _, res1 rfl rfl, Dr.sat (by repeat (first | with_reducible exact dr_refl | apply dr_keep | apply dr_drop)), rfl, rfl⟩
  · try simp only [lv1, lv2, lv3, lv4, lv5, lv6, Bool.not_true, Bool.not_false] at h
    refine tc_skip ?_; refine q_then_n ?_; refine sr ?_; refine tlm ?_; refine tla ?_; refine nq ?_; refine tc_ret ?_
    have e : nblk n.toNat = q / 248 := by unfold nblk; rw [hq]; exact if_pos (by first | omega | (simp at h; omega))
    rw [e]
    exact ⟨.int .i64 ((q / 248 : Nat) : Int), _, res1 rfl rfl, Dr.sat (by repeat (first | with_reducible exact dr_refl | apply dr_keep | apply dr_drop)), rfl, rfl⟩
theorem readyB_c {A R : SP} {C : SP → SP} {X : WkX} {Y : WkY} {T : WkT} {s : DevS} (hc : Ct A (WkA X Y s) R C := by repeat (first | with_reducible exact ct_here | apply ct_left)) (hok : WkOk X Y T (s.ls.length * 64)) (hb : WkB X s) (ho : s.off = false := by assumption) :
    Fn Tryz.prog 69 #[.pointer (some ⟨X.w, 0, none⟩)] (A) (fun r B => r = .int .i64 0 ∧ A = B) := by
  refine fn_enterW (args := [.pointer (some ⟨X.w, 0, none⟩)]) Tryz.func69 rfl Tryz.ntmps69 (by simp) ?_; refine sr ?_; refine tla ?_; refine nq ?_; refine sr ?_; refine tlm ?_; refine tl_c rfl (o_call bd143 rfl (Root13_c (hc := hc) (hok := hok) (hb := hb))) ?_; rintro _ _ ⟨v7, rfl, rfl⟩; refine tlm ?_; refine tv (o_extract rfl rfl) ?_; refine tv (o_extract rfl rfl) ?_; refine tla ?_; refine tla ?_; refine nq ?_; refine sr ?_; refine tlm ?_; refine tla ?_; refine nq ?_; refine tc_ret ?_; exact ⟨.int .i64 0, _, res1 rfl rfl, Dr.sat (by repeat (first | with_reducible exact dr_refl | apply dr_keep | apply dr_drop)), rfl, rfl⟩
theorem blockB_c {A : SP} {nx : Nat} {s : ByteArray} (hs : s.size ≤ 248 := by omega) (hn : nx < 4294967296 := by omega) :
    Fn Tryz.prog 72 #[.int .u32 (nx : Nat), .string s] (A) (fun r B => ∃ a c, r = .slice a 256 c ∧ 256 ≤ c ∧ B = A * Sl 1 (.slice a 256 c) 256 (bys (blkS nx (sbys s)))) := by
  refine fn_enterW (args := [.int .u32 (nx : Nat), .string s]) Tryz.func72 rfl Tryz.ntmps72 (by simp) ?_
  have hxl := sbys_len s
  refine sr ?_; refine tla ?_; refine nq ?_; refine sr ?_; refine tlm ?_; refine tl_c rfl (o_call bd146 rfl (Put32_c (xs := []) (v := nx))) ?_; rintro _ _ ⟨a7, c7, rfl, hc7, rfl⟩; refine tl_env (d := 7) (v := .slice a7 4 c7) (rfl) ?_; refine tlm ?_; refine tv (o_lenS Tryz.underlying9 rfl) ?_; refine tv (o_conv16 Tryz.underlying3 Tryz.underlying213 rfl) ?_; refine tl_env (d := 10) (v := .int .u16 ((s.size : Nat) : Int)) (congrArg (fun z : Nat => Value.int .u16 (z : Int)) (Nat.mod_eq_of_lt (by omega))) ?_; refine tl_c rfl (o_call bd145 rfl (Put16_c (m := 4) (xs := [] ++ le 4 nx) (v := s.size) (hr := rs_sl) (hm := by rw [List.nil_append, le_length]))) ?_; rintro _ _ ⟨a11, c11, rfl, hc11, rfl⟩; refine tl_env (d := 11) (v := .slice a11 6 c11) (rfl) ?_; refine tl_c rfl (o_call bd145 rfl (Put16_c (m := 6) (xs := [] ++ le 4 nx ++ le 2 s.size) (v := 0) (hr := rs_sl) (hm := by simp only [List.nil_append, List.length_append, le_length]))) ?_; rintro _ _ ⟨a12, c12, rfl, hc12, rfl⟩; refine tl_env (d := 12) (v := .slice a12 8 c12) (rfl) ?_; refine tla ?_; refine nq ?_; refine sr ?_; refine tlm ?_; refine tlm ?_; refine tl_x rfl (o_apRS Tryz.underlying57 Tryz.underlying9 sz5 by5 z5 rfl (by decide) (by decide) rfl rfl (by repeat (first | with_reducible exact ct_here | apply ct_left)) rfl (by rw [bys_length, hxl, Nat.mul_one]) (by omega) (show bys ([] ++ le 4 nx ++ le 2 s.size ++ le 2 0) ++ bys (sbys s) = bys (le 4 nx ++ le 2 (sbys s).length ++ le 2 0 ++ sbys s) by rw [← hxl]; exact blkS_app _ _)) ?_
  rintro _ _ ⟨a15, c15, rfl, hc15, rfl⟩; refine tla ?_; refine nq ?_; refine sr ?_; refine tlm ?_; refine tlm ?_; refine tv (o_lenS Tryz.underlying9 rfl) ?_; refine tv (o_subI rfl rfl (by omega)) ?_; refine tl_x rfl (o_apRZ Tryz.underlying57 Tryz.underlying3 sz5 by5 z5 rfl (by decide) (by decide) rfl (show _ = Value.int .i64 ((248 - s.size : Nat) : Int) from congrArg (Value.int .i64) (by omega)) (by repeat (first | with_reducible exact ct_here | apply ct_left)) (zrepB _) (by rw [bys_length, List.length_replicate, Nat.mul_one]) (bys_all _) (by omega) (show bys _ ++ bys (List.replicate (248 - s.size) 0) = bys (blkS nx (sbys s)) by rw [← hxl]; exact blkS_app2 _ _)) ?_; rintro _ _ ⟨a20, c20, rfl, hc20, rfl⟩
  rw [show 8 + s.size + (248 - s.size) = 256 by omega] at *
  refine tla ?_; refine nq ?_; refine tc_ret ?_; exact ⟨_, _, res1 rfl rfl, Dr.sat (by repeat (first | with_reducible exact dr_refl | apply dr_keep | apply dr_drop)), a20, c20, rfl, hc20, rfl⟩
end Go.Vl

namespace Go.Vl
open Go Go.Proofs
theorem Take13_c {A R : SP} {C : SP → SP} {X : WkX} {Y : WkY} {T : WkT} {s : DevS} (hc : Ct A (WkA X Y s) R C := by repeat (first | with_reducible exact ct_here | apply ct_left)) (hok : WkOk X Y T (s.ls.length * 64)) (hb : WkB X s) (ho : s.off = false := by assumption) :
    Fn Tryz.prog 70 #[.pointer (some ⟨X.w, 0, none⟩)] A (fun r B => ∃ b e T2 Y2, takeS X.n T = (b, e, T2) ∧ r = .tuple #[.int .i64 (b : Nat), .int .i64 e] ∧ WkOk X Y2 T2 (s.ls.length * 64) ∧ B = C (WkA X Y2 s)) := by
  cases h : leastB T X.n with
  | none => exact (Take13_no (hc := hc) (hok := hok) (hb := hb) (hf := h)).mono fun r B ⟨h1, h2⟩ => ⟨0, 7, T, Y, by unfold takeS; rw [h], h1, hok, h2⟩
  | some b => exact (Take13_ok (hc := hc) (hok := hok) (hb := hb) (hf := h)).mono fun r B ⟨Y2, h1, h2, h3⟩ => ⟨b, 0, _, Y2, by unfold takeS; rw [h], h1, h2, h3⟩
theorem natI_snoc (zs : List Nat) (b : Nat) : ints (natI zs) ++ [.int .i64 ((b : Nat) : Int)] = ints (natI (zs ++ [b])) := by unfold ints natI; simp [i64]
theorem sbys_ex (s : ByteArray) (l h : Nat) : sbys (s.extract l h) = ((sbys s).take h).drop l := by
  unfold sbys
  rw [show (s.extract l h).data = s.data.extract l h by simp]
  rw [Array.toList_extract, List.extract_eq_take_drop, List.map_take, List.map_drop, List.drop_take]
theorem sbys_lt {s : ByteArray} : ∀ x ∈ sbys s, x < 256 := fun x hx => by obtain ⟨b, _, rfl⟩ := List.mem_map.1 hx; exact b.toNat_lt
theorem refL_pos {L : List Nat} (h : 0 < L.length) : refL L = L[0] + 1 := by cases L with
  | nil => cases h
  | cons a l => rfl
theorem used_of {T : WkT} {b : Nat} (h : T.tk b = true) : usedB T b = true := by unfold usedB; rw [h]; rfl
attribute [local irreducible] crk crL crc Sl pt ro Dev imgS recS readS recsF rdW rdO rkT Parts rvl recordsS runsL adrF kcl xcl kys runA runsF layF ovF TxA adZ WkA SlB blkS conB
set_option maxRecDepth 20000 in
set_option maxHeartbeats 1000000 in
theorem PutB_c {A R : SP} {C : SP → SP} {X : WkX} {Y : WkY} {T : WkT} {s : DevS} (hc : Ct A (WkA X Y s) R C := by repeat (first | with_reducible exact ct_here | apply ct_left)) (hok : WkOk X Y T (s.ls.length * 64)) (hb : WkB X s) (ho : s.off = false := by assumption) {str : ByteArray} (hsz : str.size ≤ 9223372036854775807 := by omega) :
    Fn Tryz.prog 15 #[.pointer (some ⟨X.w, 0, none⟩), .string str] (A) (fun r B => ∃ ref e T2 Y2, (putS X.ba X.n T (sbys str)) = (ref, e, T2) ∧ r = .tuple #[.int .u32 ((ref : Nat) : Int), .int .i64 e] ∧ WkOk X Y2 T2 (s.ls.length * 64) ∧ B = C (WkA X Y2 s)) := by
  refine fn_enterW (args := [.pointer (some ⟨X.w, 0, none⟩), .string str]) Tryz.func15 rfl Tryz.ntmps15 (by simp) ?_
  obtain ⟨hb1, hb2, hb3⟩ := id hb
  obtain ⟨rfl, hC⟩ := hc
  have hxl := sbys_len str
  have hn16 : X.n ≤ 16384 := by omega
  obtain ⟨K, hK⟩ : ∃ K, nblk str.size = K := ⟨_, rfl⟩
  have hKb := nblk_le str.size
  rw [hK] at hKb
  refine sr ?_; refine tla ?_; refine tla ?_; refine nq ?_; refine tc_seq ?_; refine sr ?_; refine tlm ?_; refine tl_c rfl (o_call bd69 rfl (readyB_c (X := X) (Y := Y) (T := T) (s := s) (hok := hok) (hb := hb))) ?_; rintro _ _ ⟨rfl, rfl⟩; refine tla ?_; refine nq ?_; refine sr ?_; refine tlm ?_; refine tv (o_nei rfl rfl) ?_; refine nq ?_; refine tc_cond rfl (fun h => ?_) (fun h => ?_)
  · exfalso; simp at h
  · try simp only [lv1, lv2, lv3, lv4, lv5, lv6, Bool.not_true, Bool.not_false] at h
    refine tc_skip ?_; refine q_then_n ?_; refine tc_seq ?_; refine sr ?_; refine tlm ?_; refine tv (o_lenS Tryz.underlying9 rfl) ?_; refine tv (o_gtr rfl rfl) ?_; refine nq ?_; refine tc_cond rfl (fun h => ?_) (fun h => ?_)
    · have g22 : 65536 < str.size := by first | omega | (simp at h; omega)
      refine sr ?_; refine tla ?_; refine tla ?_; refine nq ?_; refine tc_ret ?_; refine q_then_r ?_
      have he9 : (putS X.ba X.n T (sbys str)) = (0, 4, T) := by unfold putS; rw [if_pos (by omega)]
      exact ⟨.tuple #[.int .u32 ((0 : Nat) : Int), .int .i64 (4)], C (WkA X Y s), res2 rfl rfl rfl, (fun g w h => by rw [hC]; exact Dr.sat (A' := R * WkA X Y s) (by repeat (first | with_reducible exact dr_refl | apply dr_keep | apply dr_drop)) g w h), 0, 4, _, Y, he9, rfl, by assumption, rfl⟩
    · have g22 : str.size ≤ 65536 := by first | omega | (simp at h; omega)
      have hK9 : K ≤ 265 := by rw [← hK]; unfold nblk; split <;> omega
      refine tc_skip ?_; refine q_then_n ?_; refine sr ?_; refine tla ?_; refine nq ?_; refine tc_seq ?_; refine sr ?_; refine tlm ?_; refine tv (o_lenS Tryz.underlying9 rfl) ?_; refine tl_c rfl (o_call bd11 rfl (NeedB_c (n := ((str.size : Nat) : Int)))) ?_; rintro _ _ ⟨rfl, rfl⟩; refine tl_env (d := 25) (v := .int .i64 ((K : Nat) : Int)) (by show Value.int .i64 ((nblk ((str.size : Int).toNat) : Nat) : Int) = _; rw [Int.toNat_natCast, hK]) ?_; refine tlm ?_; refine nq ?_; refine tc_block ?_; refine tc_pre (A' := R * WkA X Y s * Sl 1 (.slice none 0 0) 0 (ints (natI []))) (fun _ _ h => sl_nil (Dr.sat (by repeat (first | with_reducible exact dr_refl | apply dr_keep | apply dr_drop)) _ _ h)) ?_; refine tc_loop (fun kk ρ BB => ∃ (i : Nat) (a7 : Option Addr) (c7 : Nat) (Yi : WkY) (Ti : WkT) (zs : List Nat), (i ≤ K ∧ zs.length = i ∧ i ≤ c7) ∧ (WkOk X Yi Ti (s.ls.length * 64)) ∧ (takeL X.n K T = (zs ++ (takeL X.n (K - i) Ti).1, (takeL X.n (K - i) Ti).2)) ∧ kk = K - i ∧ ρ 7 = .slice a7 i c7 ∧ ρ 26 = .int .i64 ((i : Nat) : Int) ∧ ρ 0 = .pointer (some ⟨X.w, 0, none⟩) ∧ ρ 1 = .string str ∧ ρ 25 = .int .i64 ((K : Nat) : Int) ∧ Dr BB (R * WkA X Yi s * Sl 1 (.slice a7 i c7) i (ints (natI zs)))) (m := K - (0)) ?_ ?_
      · exact ⟨0, none, 0, Y, T, [], ⟨by omega, rfl, by omega⟩, hok, by rw [Nat.sub_zero]; rfl, rfl, rfl, rfl, rfl, rfl, rfl, (by repeat (first | with_reducible exact dr_refl | apply dr_keep | apply dr_drop))⟩
      · intro k ρ B hI
        obtain ⟨i, a7, c7, Yi, Ti, zs, hp0, hp1, hp2, hkk1, hE7, hE26, hE0, hE1, hE25, hBA⟩ := hI
        refine tc_pre hBA.sat ?_
        clear hBA
        refine tc_env (d := 7) hE7 ?_; refine tc_env (d := 26) hE26 ?_; refine tc_env (d := 0) hE0 ?_; refine tc_env (d := 1) hE1 ?_; refine tc_env (d := 25) hE25 ?_
        clear hE7 hE26 hE0 hE1 hE25
        refine sr ?_; refine tv (o_lss rfl rfl) ?_; refine nq ?_; refine tc_seq ?_; refine tc_cond rfl (fun h => ?_) (fun h => ?_)
        · obtain ⟨hp0, hzl, hpc⟩ := hp0
          have hi : i < K := by first | omega | (simp at h; omega)
          refine tc_skip ?_; refine q_then_n ?_; refine tc_seq ?_; refine tc_block ?_; refine sr ?_; refine tlm ?_; refine tl_c rfl (o_call bd70 rfl (Take13_c (X := X) (Y := Yi) (T := Ti) (s := s) (hok := hp1) (hb := hb))) ?_; rintro _ _ ⟨b30, e30, T30, Y30, ht30, rfl, hok30, rfl⟩; refine tlm ?_; refine tv (o_extract rfl rfl) ?_; refine tv (o_extract rfl rfl) ?_; refine tla ?_; refine tla ?_; refine nq ?_; refine tc_seq ?_; refine sr ?_; refine tlm ?_; refine tv (o_nei rfl rfl) ?_; refine nq ?_; refine tc_cond rfl (fun h => ?_) (fun h => ?_)
          · obtain ⟨hl30, rfl, rfl⟩ := takeS_no ht30 (by first | exact of_decide_eq_true h | (simpa using h))
            have hno := takeL_none (n := X.n) (k := K - i) hl30 (by omega)
            rw [hno, List.append_nil] at hp2
            refine sr ?_; refine tlm ?_; refine tla ?_; refine tla ?_; refine nq ?_; refine tc_ret ?_; refine q_then_r (q_block_r (q_then_r (q_then_r (q_block_r (q_then_r ?_)))))
            have he9 := putS_no (ba := X.ba) (s := sbys str) (by omega) (by rw [hxl, hK]; exact hp2)
            exact ⟨.tuple #[.int .u32 ((0 : Nat) : Int), .int .i64 (7)], C (WkA X Y30 s), res2 rfl rfl rfl, (fun g w h => by rw [hC]; exact Dr.sat (A' := R * WkA X Y30 s) (by repeat (first | with_reducible exact dr_refl | apply dr_keep | apply dr_drop)) g w h), 0, 7, _, Y30, he9, rfl, by assumption, rfl⟩
          · obtain ⟨hl30, rfl⟩ := takeS_ok ht30 (by first | exact of_decide_eq_false h | (simpa using h) | omega)
            have hst := takeL_some (n := X.n) (k := K - i) hl30 (by omega)
            rw [Nat.sub_sub, Prod.ext_iff] at hst
            refine tc_skip ?_; refine q_then_n ?_; refine tc_reg ?_; refine tlm ?_; refine tlm ?_; refine tl_x rfl (o_buildSlice1 Tryz.underlying26 sz3 z3 (by conv => lhs; whnf) rfl) ?_; rintro _ _ ⟨b38, rfl, rfl⟩; refine tl_x rfl (o_apB Tryz.underlying26 Tryz.underlying26 sz3 by3 z3 rfl (by decide) (by decide) rfl rfl rfl (by repeat (first | with_reducible exact ct_here | apply ct_left)) rfl (by first | exact bys_all _ | exact ints_all _ | exact wds_all _ | exact bos_all _ | rfl) (by first | omega | (simp only [bys_length, ints_length, wds_length, bos_length, List.length_append, List.length_take, List.length_drop, List.length_singleton]; omega)) (natI_snoc zs b30)) ?_; rintro _ _ ⟨a39, c39, rfl, hc39, rfl⟩; refine tla ?_; refine tl_nil ?_; refine q_block_n (q_then_n ?_); refine tc_reg ?_; refine tv (by first | exact o_addI rfl rfl (by omega) | exact o_add rfl rfl) ?_; refine tlm ?_; refine nq ?_; exact ⟨_, by omega, i + 1, _, _, _, _, zs ++ [b30], ⟨by omega, by rw [List.length_append, List.length_singleton]; omega, hc39⟩, hok30, by rw [hp2, hst.1, hst.2, List.append_assoc]; rfl, rfl, rfl, rfl, rfl, rfl, rfl, (by repeat (first | with_reducible exact dr_refl | apply dr_keep | apply dr_drop))⟩
        · obtain ⟨hp0, hzl, hpc⟩ := hp0
          obtain rfl : i = K := by first | omega | (simp at h; omega)
          rw [Nat.sub_self, takeL_zero, List.append_nil] at hp2
          replace hp2 : takeL X.n i T = (zs, Ti, true) := hp2
          have hspec := takeL_spec X.n i T
          rw [hp2] at hspec
          obtain ⟨q1, q2, q3, _, _⟩ := hspec
          have hput := putS_ok (ba := X.ba) (s := sbys str) (by omega) (by rw [hxl, hK]; exact hp2)
          have hzt : ∀ b ∈ zs, b < X.n ∧ Ti.tk b = true := fun b hb => ⟨(q2 b hb).1, (show Ti.tk b = (T.tk b || decide (b ∈ zs)) from congrArg (fun t : WkT => t.tk b) q3).trans (by simp [hb])⟩
          refine tc_exit ?_; refine q_then_e (q_then_e (q_block_x (q_then_n ?_))); refine tc_seq ?_; refine sr ?_; refine tlm ?_; refine tv (o_len Tryz.underlying26 rfl) ?_; refine tlm ?_; refine nq ?_; refine tc_block ?_; refine tc_loop (fun kk ρ BB => ∃ (j : Nat) (Yj : WkY) (Tj : WkT) (sj : ByteArray), (j ≤ i) ∧ (WkOk X Yj Tj (s.ls.length * 64)) ∧ (wrL X.ba (zs.drop j) Tj (sbys sj) = wrL X.ba zs Ti (sbys str)) ∧ (Tj.tk = Ti.tk) ∧ (j < i → 248 * (i - j - 1) < sj.size ∧ sj.size ≤ 248 * (i - j)) ∧ kk = i - j ∧ ρ 1 = .string sj ∧ ρ 43 = .int .i64 ((j : Nat) : Int) ∧ ρ 0 = .pointer (some ⟨X.w, 0, none⟩) ∧ ρ 7 = .slice a7 i c7 ∧ ρ 41 = .slice a7 i c7 ∧ ρ 42 = .int .i64 ((i : Nat) : Int) ∧ Dr BB (R * WkA X Yj s * Sl 1 (.slice a7 i c7) i (ints (natI zs)))) (m := i - (0)) ?_ ?_
          · exact ⟨0, Yi, Ti, str, by omega, hp1, rfl, rfl, fun h9 => by have := hKb.2 (by rcases Nat.eq_zero_or_pos str.size with h8 | h8; rw [h8] at hK; exact absurd hK (by unfold nblk; rw [if_pos (by decide)]; omega); exact h8); omega, rfl, rfl, rfl, rfl, rfl, rfl, rfl, (by repeat (first | with_reducible exact dr_refl | apply dr_keep | apply dr_drop))⟩
          · intro k ρ B hI
            obtain ⟨j, Yj, Tj, sj, hq0, hq1, hq2, hq3, hq4, hkk2, hE1, hE43, hE0, hE7, hE41, hE42, hBA⟩ := hI
            refine tc_pre hBA.sat ?_
            clear hBA
            refine tc_env (d := 1) hE1 ?_; refine tc_env (d := 43) hE43 ?_; refine tc_env (d := 0) hE0 ?_; refine tc_env (d := 7) hE7 ?_; refine tc_env (d := 41) hE41 ?_; refine tc_env (d := 42) hE42 ?_
            clear hE1 hE43 hE0 hE7 hE41 hE42
            refine sr ?_; refine tv (o_lss rfl rfl) ?_; refine nq ?_; refine tc_seq ?_; refine tc_cond rfl (fun h => ?_) (fun h => ?_)
            · have hj : j < zs.length := by first | omega | (simp at h; omega)
              obtain ⟨x, hx⟩ : ∃ x, zs[j] = x := ⟨_, rfl⟩
              obtain ⟨hxn, hxt⟩ := hzt x (hx ▸ List.getElem_mem hj)
              obtain ⟨hs1, hs2⟩ := hq4 (by omega)
              have hjl := sbys_len sj
              refine tc_skip ?_; refine q_then_n ?_; refine tc_seq ?_; refine tc_block ?_; refine sr ?_; refine tlm ?_; refine tv (o_ixP1 (a := a7) Tryz.underlying26 sz3 rfl rfl (by omega) (nn_rs (xs := ints (natI zs)) (by repeat (first | with_reducible exact rs_sl | apply Rs.left)) (by rw [ints_length, natI_len]; omega))) ?_; refine tv (o_ldP (a := a7) (xs := ints (natI zs)) p3 rfl (by repeat (first | with_reducible exact rs_sl | apply Rs.left)) (natI_at hj)) ?_; refine tl_env (d := 47) (v := .int .i64 ((x : Nat) : Int)) (by show Value.int .i64 ((zs[j] : Nat) : Int) = _; rw [hx]) ?_; refine tla ?_; refine tla ?_; refine nq ?_; refine sr ?_; refine tlm ?_; refine tla ?_; refine tla ?_; refine nq ?_; refine tc_seq ?_; refine sr ?_; refine tlm ?_; refine tv (by first | exact o_addI rfl rfl (by omega) | exact o_add rfl rfl) ?_; refine tlm ?_; refine tv (o_len Tryz.underlying26 rfl) ?_; refine tv (o_lss rfl rfl) ?_; refine nq ?_; refine tc_cut (fun ρ BB => ∃ (d : ByteArray) (nx : Nat) (s2 : ByteArray), (wrL X.ba (zs.drop (j + 1)) (Tj.write X.ba x (blkS nx (sbys d))) (sbys s2) = wrL X.ba zs Ti (sbys str)) ∧ (d.size ≤ 248) ∧ (nx < 4294967296) ∧ (j + 1 < i → 248 * (i - (j + 1) - 1) < s2.size ∧ s2.size ≤ 248 * (i - (j + 1))) ∧ ρ 12 = .string d ∧ ρ 13 = .int .u32 ((nx : Nat) : Int) ∧ ρ 1 = .string s2 ∧ ρ 0 = .pointer (some ⟨X.w, 0, none⟩) ∧ ρ 7 = .slice a7 i c7 ∧ ρ 11 = .int .i64 ((x : Nat) : Int) ∧ ρ 41 = .slice a7 i c7 ∧ ρ 42 = .int .i64 ((i : Nat) : Int) ∧ ρ 43 = .int .i64 ((j : Nat) : Int) ∧ BB = R * WkA X Yj s * Sl 1 (.slice a7 i c7) i (ints (natI zs))) ?_ ?_
              · skip
                refine tc_cond rfl (fun h => ?_) (fun h => ?_)
                · have hj1 : j + 1 < zs.length := by first | omega | (simp at h; omega)
                  obtain ⟨y, hy⟩ : ∃ y, zs[j + 1] = y := ⟨_, rfl⟩
                  obtain ⟨hyn, _⟩ := hzt y (hy ▸ List.getElem_mem hj1)
                  have hr0 : wrL X.ba (zs.drop (j + 1)) (Tj.write X.ba x (blkS (y + 1) (sbys (sj.extract 0 248)))) (sbys (sj.extract 248 sj.size)) = wrL X.ba zs Ti (sbys str) := by rw [← hq2, wrL_step hj1, hx, hy, sbys_ex, sbys_ex, List.drop_zero, List.take_of_length_le (l := sbys sj) (i := sj.size) (by omega)]
                  have hr1 : (sj.extract 0 248).size ≤ 248 := by rw [ByteArray.size_extract]; omega
                  have hr2 : y + 1 < 4294967296 := by omega
                  have hr3 : j + 1 < i → 248 * (i - (j + 1) - 1) < (sj.extract 248 sj.size).size ∧ (sj.extract 248 sj.size).size ≤ 248 * (i - (j + 1)) := fun _ => by rw [ByteArray.size_extract]; omega
                  refine tc_seq ?_; refine tc_regq mo (by kernel_rfl) ?_; refine ql_v rfl (o_move (by conv => lhs; whnf)) ?_; refine ql_v rfl (o_sliceS (l := 0) (h := 248) Tryz.underlying9 rfl bnd_none (bnd_nat rfl) (by omega) (by omega)) ?_; refine ql_v rfl (o_move (by conv => lhs; whnf)) ?_; refine ql_v rfl (o_sliceS (l := 248) (h := sj.size) Tryz.underlying9 rfl (bnd_nat rfl) bnd_none (by omega) (by omega)) ?_; refine ql_v rfl (o_assign (by conv => lhs; whnf)) ?_; refine ql_v rfl (o_assign (by conv => lhs; whnf)) ?_; refine ql_nil ?_; refine q_then_n ?_; refine tc_reg ?_; refine tlm ?_; refine tlm ?_; refine tv (by first | exact o_addI rfl rfl (by omega) | exact o_add rfl rfl) ?_; refine tl_env (d := 60) (v := .int .i64 ((j + 1 : Nat) : Int)) (rfl) ?_; refine tv (o_ixP1 (a := a7) (j := j + 1) Tryz.underlying26 sz3 rfl rfl (by omega) (nn_rs (xs := ints (natI zs)) (by repeat (first | with_reducible exact rs_sl | apply Rs.left)) (by rw [ints_length, natI_len]; omega))) ?_; refine tv (o_ldP (a := a7) (xs := ints (natI zs)) p3 rfl (by repeat (first | with_reducible exact rs_sl | apply Rs.left)) (natI_at hj1)) ?_; refine tl_env (d := 62) (v := .int .i64 ((y : Nat) : Int)) (by show Value.int .i64 ((zs[j + 1] : Nat) : Int) = _; rw [hy]) ?_
                  refine tv (o_conv32 Tryz.underlying3 Tryz.underlying32 rfl) ?_; refine tl_env (d := 63) (v := .int .u32 ((y : Nat) : Int)) (congrArg (fun z : Nat => Value.int .u32 (z : Int)) (Nat.mod_eq_of_lt (by omega))) ?_; refine tv (o_addN rfl rfl rfl (by show y + 1 < 4294967296; omega)) ?_; refine tla ?_; refine tl_nil ?_; exact ⟨sj.extract 0 248, y + 1, sj.extract 248 sj.size, hr0, hr1, hr2, hr3, rfl, rfl, rfl, rfl, rfl, rfl, rfl, rfl, rfl, rfl⟩
                · have hj1 : ¬ j + 1 < zs.length := by first | omega | (simp at h; omega)
                  have hr0 : wrL X.ba (zs.drop (j + 1)) (Tj.write X.ba x (blkS 0 (sbys sj))) (sbys sj) = wrL X.ba zs Ti (sbys str) := by rw [← hq2, wrL_last hj hj1 (sbys sj), hx]
                  have hr1 : sj.size ≤ 248 := by omega
                  have hr2 : 0 < 4294967296 := by omega
                  have hr3 : j + 1 < i → 248 * (i - (j + 1) - 1) < sj.size ∧ sj.size ≤ 248 * (i - (j + 1)) := fun _ => by omega
                  refine tc_skip ?_; exact ⟨sj, 0, sj, hr0, hr1, hr2, hr3, rfl, rfl, rfl, rfl, rfl, rfl, rfl, rfl, rfl, rfl⟩
              · intro ρ B hI
                obtain ⟨d, nx, s2, hr0, hr1, hr2, hr3, hE12, hE13, hE1, hE0, hE7, hE11, hE41, hE42, hE43, rfl⟩ := hI
                refine q_then_n ?_; refine tc_env (d := 12) hE12 ?_; refine tc_env (d := 13) hE13 ?_; refine tc_env (d := 1) hE1 ?_; refine tc_env (d := 0) hE0 ?_; refine tc_env (d := 7) hE7 ?_; refine tc_env (d := 11) hE11 ?_; refine tc_env (d := 41) hE41 ?_; refine tc_env (d := 42) hE42 ?_; refine tc_env (d := 43) hE43 ?_
                clear hE12 hE13 hE1 hE0 hE7 hE11 hE41 hE42 hE43
                refine sr ?_; refine tlm ?_; refine tlm ?_; refine tlm ?_; refine tlm ?_; refine tl_c rfl (o_call bd72 rfl (blockB_c (nx := nx) (s := d))) ?_; rintro _ _ ⟨a69, c69, rfl, hc69, rfl⟩; refine tl_c rfl (o_call bd71 rfl (Write13_ok (X := X) (Y := Yj) (T := Tj) (s := s) (b := x) (xs := blkS nx (sbys d)) (hok := hq1) (hb := hb) (hu := used_of (by rw [hq3]; exact hxt)) (hr := rs_sl) (hxl := blkS_len (by rw [sbys_len]; omega)) (hxb := blkS_bytes sbys_lt))) ?_; rintro _ _ ⟨Y70, rfl, hok70, rfl⟩; refine tla ?_; refine nq ?_; refine sr ?_; refine tlm ?_; refine tv (o_nei rfl rfl) ?_; refine nq ?_; refine tc_cond rfl (fun h => ?_) (fun h => ?_)
                · exfalso; simp at h
                · try simp only [lv1, lv2, lv3, lv4, lv5, lv6, Bool.not_true, Bool.not_false] at h
                  refine tc_skip ?_; refine q_block_n (q_then_n ?_); refine tc_reg ?_; refine tv (by first | exact o_addI rfl rfl (by omega) | exact o_add rfl rfl) ?_; refine tlm ?_; refine nq ?_; exact ⟨_, by omega, j + 1, Y70, _, s2, by omega, hok70, hr0, hq3, hr3, rfl, rfl, rfl, rfl, rfl, rfl, rfl, (by repeat (first | with_reducible exact dr_refl | apply dr_keep | apply dr_drop))⟩
            · obtain rfl : i = j := by first | omega | (simp at h; omega)
              rw [wrL_done (by omega)] at hq2
              refine tc_exit ?_; refine q_then_e (q_then_e (q_block_x (q_then_n ?_))); refine tc_seq ?_; refine sr ?_; refine tlm ?_; refine tv (o_len Tryz.underlying26 rfl) ?_; refine tv (o_eqi rfl rfl) ?_; refine nq ?_; refine tc_cond rfl (fun h => ?_) (fun h => ?_)
              · have h0 : zs = [] := List.eq_nil_of_length_eq_zero (by first | omega | (simp at h; omega))
                refine sr ?_; refine tla ?_; refine tla ?_; refine nq ?_; refine tc_ret ?_; refine q_then_r ?_
                rw [h0] at hput
                have he9 : (putS X.ba X.n T (sbys str)) = (0, 0, wrL X.ba [] Ti (sbys str)) := hput
                rw [h0] at hq2
                rw [← hq2] at he9
                exact ⟨.tuple #[.int .u32 ((0 : Nat) : Int), .int .i64 (0)], C (WkA X Yj s), res2 rfl rfl rfl, (fun g w h => by rw [hC]; exact Dr.sat (A' := R * WkA X Yj s) (by repeat (first | with_reducible exact dr_refl | apply dr_keep | apply dr_drop)) g w h), 0, 0, _, Yj, he9, rfl, by assumption, rfl⟩
              · have h0 : 0 < zs.length := by first | omega | (simp at h; omega)
                obtain ⟨z0, hz0⟩ : ∃ z0, zs[0] = z0 := ⟨_, rfl⟩
                obtain ⟨hzn, _⟩ := hzt z0 (hz0 ▸ List.getElem_mem h0)
                have hrl : refL zs = z0 + 1 := by rw [← hz0]; exact refL_pos h0
                refine tc_skip ?_; refine q_then_n ?_; refine sr ?_; refine tlm ?_; refine tv (o_ixP1 (a := a7) (j := 0) Tryz.underlying26 sz3 rfl rfl (by omega) (nn_rs (xs := ints (natI zs)) (by repeat (first | with_reducible exact rs_sl | apply Rs.left)) (by rw [ints_length, natI_len]; omega))) ?_; refine tv (o_ldP (a := a7) (xs := ints (natI zs)) p3 rfl (by repeat (first | with_reducible exact rs_sl | apply Rs.left)) (natI_at h0)) ?_; refine tl_env (d := 80) (v := .int .i64 ((z0 : Nat) : Int)) (by show Value.int .i64 ((zs[0] : Nat) : Int) = _; rw [hz0]) ?_; refine tv (o_conv32 Tryz.underlying3 Tryz.underlying32 rfl) ?_; refine tl_env (d := 81) (v := .int .u32 ((z0 : Nat) : Int)) (congrArg (fun z : Nat => Value.int .u32 (z : Int)) (Nat.mod_eq_of_lt (by omega))) ?_; refine tv (o_addN rfl rfl rfl (by show z0 + 1 < 4294967296; omega)) ?_; refine tla ?_; refine tla ?_; refine nq ?_; refine tc_ret ?_
                rw [hrl, ← hq2] at hput
                have he9 := hput
                exact ⟨.tuple #[.int .u32 ((z0 + 1 : Nat) : Int), .int .i64 (0)], C (WkA X Yj s), res2 rfl rfl rfl, (fun g w h => by rw [hC]; exact Dr.sat (A' := R * WkA X Yj s) (by repeat (first | with_reducible exact dr_refl | apply dr_keep | apply dr_drop)) g w h), z0 + 1, 0, _, Yj, he9, rfl, by assumption, rfl⟩
end Go.Vl
