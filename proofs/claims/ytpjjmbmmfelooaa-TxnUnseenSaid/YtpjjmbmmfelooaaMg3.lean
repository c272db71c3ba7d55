/- What the row rests on, part 3: a calculus of assertions, walks of functions over it, and plain laws. Conditions: none. -/
import Derived.Deep.QuietTactic
import Derived.BigQuiet
import Derived.WalkKit
import Derived.Test.YtpjjmbmmfelooaaProg
import Derived.OrdersHeld
import Derived.Laws.BytesArg
import Derived.RangeFuncRecord
import Derived.TacticsIn
import Derived.Deep.Slices
import Derived.OpenShut
import Derived.ChangeArms
import Derived.SizedLaws
import Derived.ChangeSame
import Derived.Test.YtpjjmbmmfelooaaRows
import Derived.Sort.QuietThIn
import Derived.Maps.RangeRun
import Derived.ScopeJumps
import Derived.Shelf.SortM.SortNone
import Derived.Shelf.SortM.Plain
import Derived.Ground.SlgmProg
import Derived.Test.YtpjjmbmmfelooaaMg2
set_option linter.unusedVariables false
set_option linter.unusedSimpArgs false
namespace Go.Vl
open Go Go.Proofs
theorem crL_app : ∀ {xs ys : List Nat} {r : Nat}, crL r (xs ++ ys) = crL (crL r xs) ys
  | [], _, _ => rfl
  | x :: xs, ys, r => by show crL _ (xs ++ ys) = crL (crL _ xs) ys; exact crL_app
theorem crc_app {s : Nat} {xs ys : List Nat} : crc s (xs ++ ys) = crc (crc s xs) ys := by
  unfold crc; rw [crL_app, Nat.xor_assoc (crL _ xs), Nat.xor_self, Nat.xor_zero]
/-- How many bytes are added behind n bytes. -/
def pad8 (n : Nat) : Nat := (8 - n % 8) % 8
def up8 (n : Nat) : Nat := n + pad8 n
theorem up8_le (n : Nat) : n ≤ up8 n ∧ up8 n < n + 8 := by unfold up8 pad8; omega
/-- The head of a record, but for its sum. -/
def recH (p n : Nat) : List Nat := le 8 p ++ le 8 n
theorem recH_len (p n : Nat) : (recH p n).length = 16 := by unfold recH; rw [List.length_append, le_length, le_length]
theorem recH_b (p n : Nat) : ∀ x ∈ recH p n, x < 256 := fun x hx => by
  rcases List.mem_append.1 hx with h | h <;> exact le_bytes _ _ _ h
/-- A record's bytes. -/
def recS (p : Nat) (old : List Nat) : List Nat := recH p old.length ++ le 8 (crc 0 (recH p old.length ++ old)) ++ old ++ List.replicate (pad8 old.length) 0
theorem recS_eq (p : Nat) (old : List Nat) : recS p old = recH p old.length ++ le 8 (crc 0 (recH p old.length ++ old)) ++ old ++ List.replicate (pad8 old.length) 0 := rfl
theorem recS_len (p : Nat) (old : List Nat) : (recS p old).length = 24 + up8 old.length := by
  unfold recS up8; simp only [List.length_append, recH_len, le_length, List.length_replicate]; omega
theorem recS_b {p : Nat} {old : List Nat} (h : ∀ x ∈ old, x < 256) : ∀ x ∈ recS p old, x < 256 := fun x hx => by
  unfold recS at hx
  rcases List.mem_append.1 hx with h1 | h1
  · rcases List.mem_append.1 h1 with h2 | h2
    · rcases List.mem_append.1 h2 with h3 | h3
      · exact recH_b _ _ _ h3
      · exact le_bytes _ _ _ h3
    · exact h x h2
  · rw [(List.mem_replicate.1 h1).2]; decide
/-- What records of so many bytes take. -/
def needF : List Int → Int → Int × Int
  | [], s => (s, 0)
  | n :: l, s => if n < 1 then (0, 2) else if 9223372036854775807 < n + pad8 n.toNat then (0, 2) else if 9223372036854775807 - 24 - s < n + pad8 n.toNat then (0, 2) else needF l (s + 24 + (n + pad8 n.toNat))
def needS (l : List Int) : Int × Int := needF l 0
/-- May an extent be? -/
def mayX (n at_ sz : Nat) (x : Int × Int) : Bool := decide (1 ≤ x.2 ∧ 64 ≤ x.1 ∧ x.1 + x.2 ≤ n ∧ (x.1 + x.2 ≤ at_ ∨ (at_ + sz : Nat) ≤ x.1))
/-- Where a log may lie. -/
structure LogW (n at_ sz : Nat) : Prop where
  a : 64 ≤ at_
  am : at_ % 64 = 0
  s : 128 ≤ sz
  sm : sz % 64 = 0
  top : at_ + sz ≤ n
/-- Records are stored, one behind the other. -/
def putF : Nat → List (Int × Int) → DevS → Int × DevS
  | _, [], s => (0, s)
  | p, x :: l, s => if (sto (p : Nat) (recS x.1.toNat (((imgS s).drop x.1.toNat).take x.2.toNat)) s).1 ≠ 0 then sto (p : Nat) (recS x.1.toNat (((imgS s).drop x.1.toNat).take x.2.toNat)) s
    else putF (p + (24 + up8 x.2.toNat)) l (sto (p : Nat) (recS x.1.toNat (((imgS s).drop x.1.toNat).take x.2.toNat)) s).2
def lensX (l : List (Int × Int)) : List Int := l.map (·.2)
def writeS (at_ sz : Nat) (l : List (Int × Int)) (s : DevS) : Int × DevS :=
  if s.off = true then (5, s) else if (wordP (at_ : Nat) s).1 ≠ 0 then (3, s) else if l.all (mayX (s.ls.length * 64) at_ sz) = false then (6, s)
  else if (needS (lensX l)).2 ≠ 0 ∨ ((sz - 64 : Nat) : Int) < (needS (lensX l)).1 then (111, s) else if l = [] then (0, s)
  else if (putF (at_ + 64) l s).1 ≠ 0 then putF (at_ + 64) l s
  else if (rangeP ((at_ + 64 : Nat) : Int) (needS (lensX l)).1 (putF (at_ + 64) l s).2).1 ≠ 0 then rangeP ((at_ + 64 : Nat) : Int) (needS (lensX l)).1 (putF (at_ + 64) l s).2
  else pubP (at_ : Nat) l.length (rangeP ((at_ + 64 : Nat) : Int) (needS (lensX l)).1 (putF (at_ + 64) l s).2).2
def clearS (at_ : Nat) (s : DevS) : Int × DevS := if s.off = true then (5, s) else pubP (at_ : Nat) 0 s
/-- The record at a place of the room. -/
def readS (n at_ sz : Nat) (room : List Nat) (p : Nat) : Option ((Nat × List Nat) × Nat) :=
  if room.length < p + 24 then none
  else if mayX n at_ sz ((nm ((room.drop p).take 8) : Nat), (nm ((room.drop (p + 8)).take 8) : Nat)) = false then none
  else if room.length < p + (24 + up8 (nm ((room.drop (p + 8)).take 8))) then none
  else if recS (nm ((room.drop p).take 8)) ((room.drop (p + 24)).take (nm ((room.drop (p + 8)).take 8))) ≠ (room.drop p).take (24 + up8 (nm ((room.drop (p + 8)).take 8))) then none
  else some ((nm ((room.drop p).take 8), (room.drop (p + 24)).take (nm ((room.drop (p + 8)).take 8))), 24 + up8 (nm ((room.drop (p + 8)).take 8)))
/-- So many records, read. -/
def recsF (n at_ sz : Nat) (room : List Nat) : Nat → Nat → List (Nat × List Nat) × Int
  | 0, _ => ([], 0)
  | k + 1, p => match readS n at_ sz room p with
    | none => ([], 110)
    | some (x, t) => if (recsF n at_ sz room k (p + t)).2 ≠ 0 then ([], 110) else (x :: (recsF n at_ sz room k (p + t)).1, 0)
def roomS (at_ sz : Nat) (s : DevS) : List Nat := ((imgS s).drop (at_ + 64)).take (sz - 64)
def recordsS (at_ sz : Nat) (s : DevS) : List (Nat × List Nat) × Int :=
  if s.off = true then ([], 5) else recsF (s.ls.length * 64) at_ sz (roomS at_ sz s) (wordP (at_ : Nat) s).1 0
/-- Lines are flushed. -/
def flL : Nat → Nat → DevS → Int × DevS
  | 0, _, s => (0, s)
  | k + 1, q, s => if (fl1 ((q * 64 : Nat) : Int) s).1 ≠ 0 then fl1 ((q * 64 : Nat) : Int) s else flL k (q + 1) (fl1 ((q * 64 : Nat) : Int) s).2
def flushX (p m : Nat) (s : DevS) : Int × DevS := flL ((p + m - 1) / 64 - p / 64 + 1) (p / 64) s
def backS (x : Nat × List Nat) (s : DevS) : Int × DevS := if (sto (x.1 : Nat) x.2 s).1 ≠ 0 then sto (x.1 : Nat) x.2 s else flushX x.1 x.2.length (sto (x.1 : Nat) x.2 s).2
/-- Records are brought back, one behind the other. -/
def backF : List (Nat × List Nat) → DevS → Int × DevS
  | [], s => (0, s)
  | x :: l, s => if (backS x s).1 ≠ 0 then backS x s else backF l (backS x s).2
def rollS (at_ sz : Nat) (s : DevS) : (Int × Int) × DevS :=
  if (recordsS at_ sz s).2 ≠ 0 ∨ (recordsS at_ sz s).1 = [] then ((0, (recordsS at_ sz s).2), s)
  else if (backF (recordsS at_ sz s).1.reverse s).1 ≠ 0 then ((0, (backF (recordsS at_ sz s).1.reverse s).1), (backF (recordsS at_ sz s).1.reverse s).2)
  else if (fe (backF (recordsS at_ sz s).1.reverse s).2).1 ≠ 0 then ((0, (fe (backF (recordsS at_ sz s).1.reverse s).2).1), (fe (backF (recordsS at_ sz s).1.reverse s).2).2)
  else if (pubP (at_ : Nat) 0 (fe (backF (recordsS at_ sz s).1.reverse s).2).2).1 ≠ 0 then ((0, (pubP (at_ : Nat) 0 (fe (backF (recordsS at_ sz s).1.reverse s).2).2).1), (pubP (at_ : Nat) 0 (fe (backF (recordsS at_ sz s).1.reverse s).2).2).2)
  else (((recordsS at_ sz s).1.length, 0), (pubP (at_ : Nat) 0 (fe (backF (recordsS at_ sz s).1.reverse s).2).2).2)
end Go.Vl

namespace Go.Vl
open Go Go.Proofs
def lcs11 (d at_ sz : Nat) : List Value := [.pointer (some ⟨d, 0, none⟩), .int .i64 (at_ : Nat), .int .i64 (sz : Nat)]
def xcs (x : Int × Int) : List Value := [.int .i64 x.1, .int .i64 x.2]
structure XW (x : Int × Int) : Prop where
  a : -9223372036854775808 ≤ x.1 ∧ x.1 ≤ 9223372036854775807
  l : -9223372036854775808 ≤ x.2 ∧ x.2 ≤ 9223372036854775807
/-- n, brought up. -/
def rndS (n : Nat) : Int × Int := if 9223372036854775807 < n + pad8 n then (0, 2) else (((up8 n : Nat) : Int), 0)
theorem wr_i64 {x : Int} (h : -9223372036854775808 ≤ x ∧ x ≤ 9223372036854775807) : IntKind.i64.wrap x = x := by simp [IntKind.wrap, IntKind.bits, IntKind.signed]; omega
theorem needF_cons {n : Nat} {l : List Int} {s : Int} (h : 1 ≤ n) : needF ((n : Int) :: l) s = if (rndS n).2 ≠ 0 ∨ 9223372036854775807 - 24 - s < (rndS n).1 then (0, 2) else needF l (s + 24 + (rndS n).1) := by
  have e : needF ((n : Int) :: l) s = if (n : Int) < 1 then (0, 2) else if 9223372036854775807 < (n : Int) + pad8 (n : Int).toNat then (0, 2) else if 9223372036854775807 - 24 - s < (n : Int) + pad8 (n : Int).toNat then (0, 2) else needF l (s + 24 + ((n : Int) + pad8 (n : Int).toNat)) := rfl
  rw [e, if_neg (by omega), Int.toNat_natCast]
  unfold rndS up8
  by_cases h1 : 9223372036854775807 < n + pad8 n
  · rw [if_pos (by omega), if_pos h1, if_pos (.inl (by decide))]
  · rw [if_neg (by omega), if_neg h1]
    by_cases h2 : 9223372036854775807 - 24 - s < ((n + pad8 n : Nat) : Int)
    · rw [if_pos (by omega), if_pos (.inr h2)]
    · rw [if_neg (by omega), if_neg (by simp only [ne_eq, not_true, false_or]; exact h2)]
      congr 1
theorem needF_drop {xs : List Int} {i : Nat} (h : i < xs.length) (s : Int) : needF (xs.drop i) s = needF (xs[i] :: xs.drop (i + 1)) s := by rw [List.drop_eq_getElem_cons h]
theorem needF_bad {n : Int} {l : List Int} {s : Int} (h : n < 1) : needF (n :: l) s = (0, 2) := by
  show (if n < 1 then _ else _) = _
  rw [if_pos h]
theorem Sum_2 {A : SP} {a a2 : Option Addr} {m m2 c c2 b : Nat} {xs ys : List Nat} {E : TypeId} (h1 : Rs A a (bys xs)) (e1 : xs.length = m) (hb : ∀ x ∈ xs, x < 256) (hl : m ≤ 1099511627776) (k1 : Rs A a2 (bys ys)) (k2 : ys.length = m2) (kb : ∀ x ∈ ys, x < 256) (kl : m2 ≤ 1099511627776) :
    Fn Try.prog 74 #[.slice (some ⟨b, 0, none⟩) 2 2] (A * pt b (cl [.slice a m c, .slice a2 m2 c2] E)) (fun r B => r = .int .u32 ((crc 0 (xs ++ ys) : Nat) : Int) ∧ A * pt b (cl [.slice a m c, .slice a2 m2 c2] E) = B) := by
  subst e1 k2
  refine fn_rs (xs := [.slice a xs.length c, .slice a2 ys.length c2]) rs_pt0 fun hr => ?_; refine fn_rs h1.left fun h1 => ?_; refine fn_rs k1.left fun k1 => ?_
  have h := Sum_c (c := 2) (ls := [xs, ys]) ⟨_, rfl, hr, fun i hi => by
    match i, hi with
    | 0, _ => exact ⟨a, c, rfl, h1⟩
    | 1, _ => exact ⟨a2, c2, rfl, k1⟩⟩ rfl (by intro l hl; simp at hl; rcases hl with rfl | rfl; exact hb; exact kb) (by intro l hm; simp at hm; rcases hm with rfl | rfl; exact hl; exact kl) (by show 2 ≤ _; decide)
  rw [show crcs [xs, ys] = crc 0 (xs ++ ys) by rw [crc_app]; rfl] at h
  exact h
attribute [local irreducible] crk crL crc Sl pt ro Dev imgS recS
theorem Round8_c {A : SP} {n : Nat} (hn : n ≤ 9223372036854775807 := by omega) :
    Fn Try.prog 73 #[.int .i64 (n : Nat), .int .i64 8] (A) (fun r B => r = .tuple #[.int .i64 (rndS n).1, .int .i64 (rndS n).2] ∧ A = B) := by
  refine fn_enterW (args := [.int .i64 (n : Nat), .int .i64 8]) Try.func73 rfl Try.ntmps73 (by simp) ?_; refine sr ?_; refine tla ?_; refine tla ?_; refine nq ?_; refine tc_seq ?_; refine sr ?_; refine tlm ?_; refine tv (o_lss rfl rfl) ?_; refine tlm ?_; refine tl_bool (d := 9) rfl (fun h => ?_) (fun h => ?_)
  · exfalso; first | (simp at h; done) | (simp at h; omega)
  · try simp only [lv1, lv2, lv3, lv4, lv5, lv6, Bool.not_true, Bool.not_false] at h
    refine tlm ?_; refine tv (o_lss rfl rfl) ?_; refine tv (o_pick_f rfl (by conv => lhs; whnf)) ?_; refine nq ?_; refine tc_cond rfl (fun h => ?_) (fun h => ?_)
    · exfalso; simp at h
    · try simp only [lv1, lv2, lv3, lv4, lv5, lv6, Bool.not_true, Bool.not_false] at h
      refine tc_skip ?_; refine q_then_n ?_; refine sr ?_; refine tlm ?_; refine tlm ?_; refine tlm ?_; refine tv (o_remN (b := 8) rfl rfl (by decide)) ?_; refine tv (by first | exact o_subI rfl rfl (by omega) | exact o_sub rfl rfl) ?_; refine tl_env (d := 17) (v := .int .i64 ((8 - n % 8 : Nat) : Int)) (by show Value.int .i64 ((8 : Int) - ((n % 8 : Nat) : Int)) = _; congr 1; omega) ?_; refine tlm ?_; refine tv (o_remN (b := 8) rfl rfl (by decide)) ?_; refine tla ?_; refine nq ?_; refine tc_seq ?_; refine sr ?_; refine tlm ?_; refine tlm ?_; refine tv (by first | exact o_subI rfl rfl (by omega) | exact o_sub rfl rfl) ?_; refine tl_env (d := 22) (v := .int .i64 ((9223372036854775807 - pad8 n : Nat) : Int)) (by have hp : pad8 n < 8 := (by unfold pad8; omega); show Value.int .i64 ((9223372036854775807 : Int) - ((pad8 n : Nat) : Int)) = _; congr 1; omega) ?_; refine tv (o_gtr rfl rfl) ?_; refine nq ?_; refine tc_cond rfl (fun h => ?_) (fun h => ?_)
      · have hp : pad8 n < 8 := by unfold pad8; omega
        have hg : 9223372036854775807 < n + pad8 n := by first | omega | (simp at h; omega)
        refine sr ?_; refine tla ?_; refine tla ?_; refine nq ?_; refine tc_ret ?_; refine q_then_r ?_
        have e : rndS n = (0, 2) := by unfold rndS; rw [if_pos hg]
        rw [e]
        exact ⟨.tuple #[.int .i64 0, .int .i64 2], A, res2 rfl rfl rfl, Dr.sat (by repeat (first | with_reducible exact dr_refl | apply dr_keep | apply dr_drop)), rfl, rfl⟩
      · have hp : pad8 n < 8 := by unfold pad8; omega
        have hg : ¬ 9223372036854775807 < n + pad8 n := by first | omega | (simp at h; omega)
        refine tc_skip ?_; refine q_then_n ?_; refine sr ?_; refine tlm ?_; refine tlm ?_; refine tv (by first | exact o_addI rfl rfl (by omega) | exact o_add rfl rfl) ?_; refine tl_env (d := 26) (v := .int .i64 ((up8 n : Nat) : Int)) (by show Value.int .i64 (IntKind.i64.wrap ((n + pad8 n : Nat) : Int)) = _; rw [wr_i64 (by omega)]; rfl) ?_; refine tla ?_; refine tla ?_; refine nq ?_; refine tc_ret ?_
        have e : rndS n = (((up8 n : Nat) : Int), 0) := by unfold rndS; rw [if_neg hg]
        rw [e]
        exact ⟨.tuple #[.int .i64 ((up8 n : Nat) : Int), .int .i64 0], A, res2 rfl rfl rfl, Dr.sat (by repeat (first | with_reducible exact dr_refl | apply dr_keep | apply dr_drop)), rfl, rfl⟩
theorem Need_c {A : SP} {a : Option Addr} {c m : Nat} {xs : List Int} (hr : Rs A a (ints xs) := by repeat (first | assumption | with_reducible exact rs_sl | with_reducible exact rs_pt0 | exact rs_none | apply Rs.left)) (hm : xs.length = m := by first | assumption | rfl) (hx : ∀ x ∈ xs, -9223372036854775808 ≤ x ∧ x ≤ 9223372036854775807 := by assumption) (hml : m ≤ 4611686018427387904 := by omega) :
    Fn Try.prog 60 #[.slice a m c] (A) (fun r B => r = .tuple #[.int .i64 (needS xs).1, .int .i64 (needS xs).2] ∧ A = B) := by
  refine fn_enterW (args := [.slice a m c]) Try.func60 rfl Try.ntmps60 (by simp) ?_; refine sr ?_; refine tla ?_; refine tla ?_; refine nq ?_; refine sr ?_; refine tla ?_; refine nq ?_; refine tc_seq ?_; refine sr ?_; refine tlm ?_; refine tv (o_len Try.underlying103 rfl) ?_; refine tlm ?_; refine nq ?_; refine tc_block ?_; refine tc_loop (fun kk ρ BB => ∃ (i : Nat) (sm : Int), (i ≤ m) ∧ (needF (xs.drop i) sm = needS xs) ∧ (0 ≤ sm ∧ sm ≤ 9223372036854775807) ∧ kk = m - i ∧ ρ 4 = .int .i64 sm ∧ ρ 11 = .int .i64 (i : Nat) ∧ ρ 9 = .slice a m c ∧ ρ 10 = .int .i64 (m : Nat) ∧ BB = A) (m := m - (0)) ?_ ?_
  · exact ⟨0, 0, by omega, rfl, by omega, rfl, rfl, rfl, rfl, rfl, rfl⟩
  · intro k ρ B hI
    obtain ⟨i, sm, hp0, hp1, hp2, hkk1, hE4, hE11, hE9, hE10, hBA⟩ := hI
    obtain rfl := hBA.symm
    refine tc_env (d := 4) hE4 ?_; refine tc_env (d := 11) hE11 ?_; refine tc_env (d := 9) hE9 ?_; refine tc_env (d := 10) hE10 ?_
    clear hE4 hE11 hE9 hE10
    refine sr ?_; refine tv (o_lss rfl rfl) ?_; refine nq ?_; refine tc_seq ?_; refine tc_cond rfl (fun h => ?_) (fun h => ?_)
    · have hi : i < xs.length := by first | omega | (simp at h; omega)
      obtain ⟨x, hx1⟩ : ∃ x, xs[i] = x := ⟨_, rfl⟩
      have hxb := hx x (hx1 ▸ List.getElem_mem hi)
      have hnd := needF_drop hi sm
      rw [hx1] at hnd
      obtain ⟨hsm0, hsm1⟩ := hp2
      refine tc_skip ?_; refine q_then_n ?_; refine tc_seq ?_; refine tc_block ?_; refine sr ?_; refine tv (o_ixP1 Try.underlying103 sz3 rfl rfl (by omega) (nn_rs hr (by rw [ints_length]; omega))) ?_; refine tv (o_ldP p3 rfl hr (ints_at hi)) ?_; refine tl_env (d := 14) (v := .int .i64 x) (by show Value.int .i64 xs[i] = _; rw [hx1]) ?_; refine tla ?_; refine nq ?_; refine tc_seq ?_; refine sr ?_; refine tlm ?_; refine tv (o_lss rfl rfl) ?_; refine nq ?_; refine tc_cond rfl (fun h => ?_) (fun h => ?_)
      · have g16 : (x < 1) := by first | exact of_decide_eq_true h | (have h2 := h; simp at h2; omega) | simpa using h
        refine sr ?_; refine tla ?_; refine tla ?_; refine nq ?_; refine tc_ret ?_; refine q_then_r (q_block_r (q_then_r (q_then_r (q_block_r (q_then_r ?_)))))
        have e : needS xs = (0, 2) := by rw [← hp1, hnd]; first | exact needF_bad g16 | rw [needF_cons hq1, if_pos hng]
        rw [e]
        exact ⟨.tuple #[.int .i64 0, .int .i64 2], A, res2 rfl rfl rfl, Dr.sat (by repeat (first | with_reducible exact dr_refl | apply dr_keep | apply dr_drop)), rfl, rfl⟩
      · have g16 : ¬ (x < 1) := by first | exact of_decide_eq_false h | (have h2 := h; simp at h2; omega) | simpa using h
        refine tc_skip ?_; refine q_then_n ?_; refine sr ?_; refine tlm ?_
        obtain ⟨q, rfl⟩ := Int.eq_ofNat_of_zero_le (show 0 ≤ x by omega)
        have hq1 : 1 ≤ q := by omega
        have hqr : (rndS q).1 ≤ 9223372036854775807 ∧ 0 ≤ (rndS q).1 := by unfold rndS up8; split <;> simp <;> omega
        refine tl_c rfl (o_call bd73 rfl (Round8_c (n := q))) ?_; rintro _ _ ⟨rfl, rfl⟩; refine tlm ?_; refine tv (o_extract rfl rfl) ?_; refine tv (o_extract rfl rfl) ?_; refine tla ?_; refine tla ?_; refine nq ?_; refine tc_seq ?_; refine sr ?_; refine tlm ?_; refine tv (o_nei rfl rfl) ?_; refine tlm ?_; refine tl_bool (d := 24) rfl (fun h => ?_) (fun h => ?_)
        · have hng : (rndS q).2 ≠ 0 ∨ 9223372036854775807 - 24 - sm < (rndS q).1 := .inl (by first | exact of_decide_eq_true h | (simp at h; omega))
          refine tk ?_; refine tk ?_; refine tk ?_; refine tk ?_; refine tv (o_pick_t rfl (by conv => lhs; whnf)) ?_; refine nq ?_; refine tc_cond_t rfl ?_; refine sr ?_; refine tla ?_; refine tla ?_; refine nq ?_; refine tc_ret ?_; refine q_then_r (q_block_r (q_then_r (q_then_r (q_block_r (q_then_r ?_)))))
          have e : needS xs = (0, 2) := by rw [← hp1, hnd]; first | exact needF_bad g16 | rw [needF_cons hq1, if_pos hng]
          rw [e]
          exact ⟨.tuple #[.int .i64 0, .int .i64 2], A, res2 rfl rfl rfl, Dr.sat (by repeat (first | with_reducible exact dr_refl | apply dr_keep | apply dr_drop)), rfl, rfl⟩
        · have h24 : (rndS q).2 = 0 := by first | (have h9 := of_decide_eq_false h; omega) | (simp at h; omega)
          refine tlm ?_; refine tlm ?_; refine tv (o_subI rfl rfl (by omega)) ?_; refine tv (o_gtr rfl rfl) ?_; refine tv (o_pick_f rfl (by conv => lhs; whnf)) ?_; refine nq ?_; refine tc_cond rfl (fun h => ?_) (fun h => ?_)
          · have hng : (rndS q).2 ≠ 0 ∨ 9223372036854775807 - 24 - sm < (rndS q).1 := by first | assumption | exact .inr (by first | omega | (simp at h; omega))
            refine sr ?_; refine tla ?_; refine tla ?_; refine nq ?_; refine tc_ret ?_; refine q_then_r (q_block_r (q_then_r (q_then_r (q_block_r (q_then_r ?_)))))
            have e : needS xs = (0, 2) := by rw [← hp1, hnd]; first | exact needF_bad g16 | rw [needF_cons hq1, if_pos hng]
            rw [e]
            exact ⟨.tuple #[.int .i64 0, .int .i64 2], A, res2 rfl rfl rfl, Dr.sat (by repeat (first | with_reducible exact dr_refl | apply dr_keep | apply dr_drop)), rfl, rfl⟩
          · have hn9 : ¬ 9223372036854775807 - 24 - sm < (rndS q).1 := by first | omega | (simp at h; omega)
            have hng : ¬ ((rndS q).2 ≠ 0 ∨ 9223372036854775807 - 24 - sm < (rndS q).1) := by omega
            refine tc_skip ?_; refine q_then_n ?_; refine sr ?_; refine tlm ?_; refine tv (by first | exact o_addI rfl rfl (by omega) | exact o_add rfl rfl) ?_; refine tla ?_; refine nq ?_; refine tc_reg ?_; refine tlm ?_; refine tlm ?_; refine tv (by first | exact o_addI rfl rfl (by omega) | exact o_add rfl rfl) ?_; refine tla ?_; refine tl_nil ?_; refine q_block_n (q_then_n ?_); refine tc_reg ?_; refine tv (by first | exact o_addI rfl rfl (by omega) | exact o_add rfl rfl) ?_; refine tlm ?_; refine nq ?_; exact ⟨_, by omega, i + 1, _, by omega, by rw [← hp1, hnd, needF_cons hq1, if_neg hng], by omega, rfl, rfl, rfl, rfl, rfl, rfl⟩
    · obtain rfl : i = m := by first | omega | (simp at h; omega)
      refine tc_exit ?_; refine q_then_e (q_then_e (q_block_x (q_then_n ?_))); refine sr ?_; refine tlm ?_; refine tla ?_; refine tla ?_; refine nq ?_; refine tc_ret ?_
      have e : needS xs = (sm, 0) := by rw [← hp1, List.drop_eq_nil_of_le (by omega)]; rfl
      rw [e]
      exact ⟨.tuple #[.int .i64 sm, .int .i64 0], A, res2 rfl rfl rfl, Dr.sat (by repeat (first | with_reducible exact dr_refl | apply dr_keep | apply dr_drop)), rfl, rfl⟩
theorem may11_c {A R : SP} {C : SP → SP} {d : Nat} {s : DevS} (hc : Ct A (Dev d s) R C := by repeat (first | with_reducible exact ct_here | apply ct_left)) {bl at_ sz : Nat} (hl : Has A bl (cl (lcs11 d at_ sz) 109) := by (repeat (first | assumption | with_reducible exact has_here | with_reducible exact has_pt | apply has_left))) {x : Int × Int} (hx : XW x := by assumption) (hlw : LogW (s.ls.length * 64) at_ sz := by assumption) :
    Fn Try.prog 59 #[.pointer (some ⟨bl, 0, none⟩), .agg (xcs x).toArray] (A) (fun r B => r = .bool (mayX (s.ls.length * 64) at_ sz x) ∧ A = B) := by
  refine fn_enterW (args := [.pointer (some ⟨bl, 0, none⟩), .agg (xcs x).toArray]) Try.func59 rfl Try.ntmps59 (by simp) ?_; refine tc_have (fun _ _ h => ct_wf2 hc h) fun hw => ?_
  have htop := hw.top
  have hpos := hw.pos
  obtain ⟨rfl, hC⟩ := hc
  obtain ⟨⟨hx1, hx2⟩, ⟨hx3, hx4⟩⟩ := hx
  obtain ⟨w1, w2, w3, w4, w5⟩ := hlw
  refine sr ?_; refine tl_x rfl (o_box rfl rfl) ?_; rintro _ _ ⟨b3, rfl, rfl⟩; refine tla ?_; refine nq ?_; refine sr ?_; refine tlm ?_; refine tv (o_nilCheck rfl) ?_; refine tv (o_fieldAddr (o := 0) Try.underlying109 rfl rfl sz26 rfl) ?_; refine tv (o_load p26 rfl (by repeat (first | assumption | apply has_left)) rfl) ?_; refine tl_c rfl (o_call bd34 rfl (Size_c (s := s))) ?_; rintro _ _ ⟨rfl, rfl⟩; refine tla ?_; refine nq ?_; refine tc_seq ?_; refine tc_seq ?_; refine tc_cut (fun ρ BB => ∃ (bb : Bool), (bb = decide (¬ (1 ≤ x.2 ∧ 64 ≤ x.1 ∧ x.1 ≤ (s.ls.length : Int) * 64 ∧ x.2 ≤ (s.ls.length : Int) * 64 - x.1))) ∧ ρ 33 = .bool bb ∧ ρ 0 = .pointer (some ⟨bl, 0, none⟩) ∧ ρ 3 = .pointer (some ⟨b3, 0, none⟩) ∧ BB = R * Dev d s * pt b3 (cl (xcs x) 46)) ?_ ?_
  · skip
    refine tc_reg ?_; refine tv (o_fieldAddr (o := 1) Try.underlying46 rfl rfl sz3 rfl) ?_; refine tv (by first | exact o_load p3 rfl (by repeat (first | with_reducible exact has_here | with_reducible exact has_pt | apply has_left)) rfl | exact o_loadC p3 rfl (by assumption)) ?_; refine tv (o_lss rfl rfl) ?_; refine tlm ?_; refine tl_bool (d := 14) rfl (fun h => ?_) (fun h => ?_)
    · have g14 : (x.2 < 1) := by first | exact of_decide_eq_true h | (have h2 := h; simp at h2; omega) | simpa using h
      refine tk ?_; refine tk ?_; refine tk ?_; refine tv (o_pick_t rfl (by conv => lhs; whnf)) ?_; refine tlm ?_; refine tk ?_; refine tk ?_; refine tk ?_; refine tk ?_; refine tv (o_pick_t rfl (by conv => lhs; whnf)) ?_; refine tlm ?_; refine tk ?_; refine tk ?_; refine tk ?_; refine tk ?_; refine tk ?_; refine tk ?_; refine tk ?_; refine tv (o_pick_t rfl (by conv => lhs; whnf)) ?_; refine tl_nil ?_; exact ⟨_, by first | exact (decide_eq_true (by omega)).symm | exact (decide_eq_false (by omega)).symm | (rw [decide_eq_decide]; omega), rfl, rfl, rfl, rfl⟩
    · have g14 : ¬ (x.2 < 1) := by first | exact of_decide_eq_false h | (have h2 := h; simp at h2; omega) | simpa using h
      refine tv (o_fieldAddr (o := 0) Try.underlying46 rfl rfl sz3 rfl) ?_; refine tv (by first | exact o_load p3 rfl (by repeat (first | with_reducible exact has_here | with_reducible exact has_pt | apply has_left)) rfl | exact o_loadC p3 rfl (by assumption)) ?_; refine tv (o_lss rfl rfl) ?_; refine tv (o_pick_f rfl (by conv => lhs; whnf)) ?_; refine tlm ?_; refine tl_bool (d := 19) rfl (fun h => ?_) (fun h => ?_)
      · have g19 : (x.2 < 1 ∨ x.1 < 64) := by first | exact of_decide_eq_true h | (have h2 := h; simp at h2; omega) | simpa using h
        refine tk ?_; refine tk ?_; refine tk ?_; refine tk ?_; refine tv (o_pick_t rfl (by conv => lhs; whnf)) ?_; refine tlm ?_; refine tk ?_; refine tk ?_; refine tk ?_; refine tk ?_; refine tk ?_; refine tk ?_; refine tk ?_; refine tv (o_pick_t rfl (by conv => lhs; whnf)) ?_; refine tl_nil ?_; exact ⟨_, by first | exact (decide_eq_true (by omega)).symm | exact (decide_eq_false (by omega)).symm | (rw [decide_eq_decide]; omega), rfl, rfl, rfl, rfl⟩
      · have g19 : ¬ (x.2 < 1 ∨ x.1 < 64) := by first | exact of_decide_eq_false h | (have h2 := h; simp at h2; omega) | simpa using h
        refine tv (o_fieldAddr (o := 0) Try.underlying46 rfl rfl sz3 rfl) ?_; refine tv (by first | exact o_load p3 rfl (by repeat (first | with_reducible exact has_here | with_reducible exact has_pt | apply has_left)) rfl | exact o_loadC p3 rfl (by assumption)) ?_; refine tlm ?_; refine tv (o_gtr rfl rfl) ?_; refine tv (o_pick_f rfl (by conv => lhs; whnf)) ?_; refine tlm ?_; refine tl_bool (d := 25) rfl (fun h => ?_) (fun h => ?_)
        · have g25 : (x.2 < 1 ∨ x.1 < 64 ∨ (s.ls.length : Int) * 64 < x.1) := by first | exact of_decide_eq_true h | (have h2 := h; simp at h2; omega) | simpa using h
          refine tk ?_; refine tk ?_; refine tk ?_; refine tk ?_; refine tk ?_; refine tk ?_; refine tk ?_; refine tv (o_pick_t rfl (by conv => lhs; whnf)) ?_; refine tl_nil ?_; exact ⟨_, by first | exact (decide_eq_true (by omega)).symm | exact (decide_eq_false (by omega)).symm | (rw [decide_eq_decide]; omega), rfl, rfl, rfl, rfl⟩
        · have g25 : ¬ (x.2 < 1 ∨ x.1 < 64 ∨ (s.ls.length : Int) * 64 < x.1) := by first | exact of_decide_eq_false h | (have h2 := h; simp at h2; omega) | simpa using h
          refine tv (o_fieldAddr (o := 1) Try.underlying46 rfl rfl sz3 rfl) ?_; refine tv (by first | exact o_load p3 rfl (by repeat (first | with_reducible exact has_here | with_reducible exact has_pt | apply has_left)) rfl | exact o_loadC p3 rfl (by assumption)) ?_; refine tlm ?_; refine tv (o_fieldAddr (o := 0) Try.underlying46 rfl rfl sz3 rfl) ?_; refine tv (by first | exact o_load p3 rfl (by repeat (first | with_reducible exact has_here | with_reducible exact has_pt | apply has_left)) rfl | exact o_loadC p3 rfl (by assumption)) ?_; refine tv (o_subI rfl rfl (by omega)) ?_; refine tv (o_gtr rfl rfl) ?_; refine tv (o_pick_f rfl (by conv => lhs; whnf)) ?_; refine tl_nil ?_; exact ⟨_, by first | exact (decide_eq_true (by omega)).symm | exact (decide_eq_false (by omega)).symm | (rw [decide_eq_decide]; omega), rfl, rfl, rfl, rfl⟩
  · intro ρ B hI
    obtain ⟨bb, hbb0, hE33, hE0, hE3, rfl⟩ := hI
    refine q_then_n ?_; refine tc_env (d := 33) hE33 ?_; refine tc_env (d := 0) hE0 ?_; refine tc_env (d := 3) hE3 ?_
    clear hE33 hE0 hE3
    refine tc_cond rfl (fun h => ?_) (fun h => ?_)
    · have hf := of_decide_eq_true (show decide (¬ (1 ≤ x.2 ∧ 64 ≤ x.1 ∧ x.1 ≤ (s.ls.length : Int) * 64 ∧ x.2 ≤ (s.ls.length : Int) * 64 - x.1)) = true by rw [← hbb0]; exact h)
      refine sr ?_; refine tla ?_; refine nq ?_; refine tc_ret ?_; refine q_then_r ?_
      have e : mayX (s.ls.length * 64) at_ sz x = false := decide_eq_false (by omega)
      rw [e]
      exact ⟨.bool false, _, res1 rfl rfl, Dr.sat (by repeat (first | with_reducible exact dr_refl | apply dr_keep | apply dr_drop)), rfl, rfl⟩
    · have hf : (1 ≤ x.2 ∧ 64 ≤ x.1 ∧ x.1 ≤ (s.ls.length : Int) * 64 ∧ x.2 ≤ (s.ls.length : Int) * 64 - x.1) := by have h9 := of_decide_eq_false (show decide (¬ (1 ≤ x.2 ∧ 64 ≤ x.1 ∧ x.1 ≤ (s.ls.length : Int) * 64 ∧ x.2 ≤ (s.ls.length : Int) * 64 - x.1)) = false by rw [← hbb0]; exact h); omega
      refine tc_skip ?_; refine q_then_n ?_; refine tc_seq ?_; refine tc_regq mo (by kernel_rfl) ?_; refine ql_v rfl (o_fieldAddr (o := 0) Try.underlying46 rfl rfl sz3 rfl) ?_; refine ql_v rfl (by first | exact o_load p3 rfl (by repeat (first | with_reducible exact has_here | with_reducible exact has_pt | apply has_left)) rfl | exact o_loadC p3 rfl (by assumption)) ?_; refine ql_v rfl (o_fieldAddr (o := 1) Try.underlying46 rfl rfl sz3 rfl) ?_; refine ql_v rfl (by first | exact o_load p3 rfl (by repeat (first | with_reducible exact has_here | with_reducible exact has_pt | apply has_left)) rfl | exact o_loadC p3 rfl (by assumption)) ?_; refine ql_v rfl (o_addI rfl rfl (by omega)) ?_; refine ql_v rfl (o_move (by conv => lhs; whnf)) ?_; refine ql_v rfl (o_nilCheck rfl) ?_; refine ql_v rfl (o_fieldAddr (o := 1) Try.underlying109 rfl rfl sz3 rfl) ?_; refine ql_v rfl (o_load p3 rfl (by repeat (first | assumption | apply has_left)) rfl) ?_; refine ql_v rfl (o_leq rfl rfl) ?_; refine ql_v rfl (o_move (by conv => lhs; whnf)) ?_; refine ql_bool (d := 44) rfl (fun h => ?_) (fun h => ?_)
      · have g44 : (x.1 + x.2 ≤ at_) := by first | exact of_decide_eq_true h | (have h2 := h; simp at h2; omega) | simpa using h
        refine ql_skip rfl ?_; refine ql_skip rfl ?_; refine ql_skip rfl ?_; refine ql_skip rfl ?_; refine ql_skip rfl ?_; refine ql_skip rfl ?_; refine ql_skip rfl ?_; refine ql_skip rfl ?_; refine ql_skip rfl ?_; refine ql_skip rfl ?_; refine ql_skip rfl ?_; refine ql_skip rfl ?_; refine ql_v rfl (o_pick_t rfl (by conv => lhs; whnf)) ?_; refine ql_v rfl (o_assign (by conv => lhs; whnf)) ?_; refine ql_nil ?_; refine q_then_n ?_; refine tc_ret ?_
        have e : ∀ b, b = decide (x.1 + x.2 ≤ at_ ∨ ((at_ + sz : Nat) : Int) ≤ x.1) → mayX (s.ls.length * 64) at_ sz x = b := fun b hb => by rw [hb]; unfold mayX; rw [decide_eq_decide]; omega
        exact ⟨.bool (mayX (s.ls.length * 64) at_ sz x), _, res1 rfl (congrArg Value.bool (e _ (by first | exact (decide_eq_true (by omega)).symm | exact (decide_eq_false (by omega)).symm | (rw [decide_eq_decide]; omega)))).symm, Dr.sat (by repeat (first | with_reducible exact dr_refl | apply dr_keep | apply dr_drop)), rfl, rfl⟩
      · have g44 : ¬ (x.1 + x.2 ≤ at_) := by first | exact of_decide_eq_false h | (have h2 := h; simp at h2; omega) | simpa using h
        refine ql_v rfl (o_fieldAddr (o := 0) Try.underlying46 rfl rfl sz3 rfl) ?_; refine ql_v rfl (by first | exact o_load p3 rfl (by repeat (first | with_reducible exact has_here | with_reducible exact has_pt | apply has_left)) rfl | exact o_loadC p3 rfl (by assumption)) ?_; refine ql_v rfl (o_move (by conv => lhs; whnf)) ?_; refine ql_v rfl (o_nilCheck rfl) ?_; refine ql_v rfl (o_fieldAddr (o := 1) Try.underlying109 rfl rfl sz3 rfl) ?_; refine ql_v rfl (o_load p3 rfl (by repeat (first | assumption | apply has_left)) rfl) ?_; refine ql_v rfl (o_move (by conv => lhs; whnf)) ?_; refine ql_v rfl (o_nilCheck rfl) ?_; refine ql_v rfl (o_fieldAddr (o := 2) Try.underlying109 rfl rfl sz3 rfl) ?_; refine ql_v rfl (o_load p3 rfl (by repeat (first | assumption | apply has_left)) rfl) ?_; refine ql_v rfl (o_addI rfl rfl (by omega)) ?_; refine ql_v rfl (o_geq rfl rfl) ?_; refine ql_v rfl (o_pick_f rfl (by conv => lhs; whnf)) ?_; refine ql_v rfl (o_assign (by conv => lhs; whnf)) ?_; refine ql_nil ?_; refine q_then_n ?_; refine tc_ret ?_
        have e : ∀ b, b = decide (x.1 + x.2 ≤ at_ ∨ ((at_ + sz : Nat) : Int) ≤ x.1) → mayX (s.ls.length * 64) at_ sz x = b := fun b hb => by rw [hb]; unfold mayX; rw [decide_eq_decide]; omega
        exact ⟨.bool (mayX (s.ls.length * 64) at_ sz x), _, res1 rfl (congrArg Value.bool (e _ (by first | exact (decide_eq_true (by omega)).symm | exact (decide_eq_false (by omega)).symm | (rw [decide_eq_decide]; omega)))).symm, Dr.sat (by repeat (first | with_reducible exact dr_refl | apply dr_keep | apply dr_drop)), rfl, rfl⟩
theorem record_c {A : SP} {a : Option Addr} {c m p : Nat} {xs : List Nat} (hr : Rs A a (bys xs) := by repeat (first | assumption | with_reducible exact rs_sl | with_reducible exact rs_pt0 | exact rs_none | apply Rs.left)) (hm : xs.length = m := by first | assumption | rfl) (hb : ∀ x ∈ xs, x < 256 := by assumption) (hp : p < 9223372036854775808 := by omega) (hml : m ≤ 1099511627776 := by omega) :
    Fn Try.prog 61 #[.int .i64 (p : Nat), .slice a m c] (A) (fun r B => ∃ a2 c2, r = .slice a2 (24 + up8 m) c2 ∧ 24 + up8 m ≤ c2 ∧ B = A * Sl 1 (.slice a2 (24 + up8 m) c2) (24 + up8 m) (bys (recS p xs))) := by
  refine fn_enterW (args := [.int .i64 (p : Nat), .slice a m c]) Try.func61 rfl Try.ntmps61 (by simp) ?_
  obtain ⟨Z, hZ⟩ : ∃ Z, crc 0 (recH p m ++ xs) = Z := ⟨_, rfl⟩
  have hZb : ∀ x ∈ recH p m ++ xs, x < 256 := fun x hx => by rcases List.mem_append.1 hx with h1 | h1; exact recH_b _ _ x h1; exact hb x h1
  have hZl : Z < 4294967296 := hZ ▸ crc_lt (by decide) hZb
  obtain ⟨Y, hY⟩ : ∃ Y, recH p m ++ le 8 Z ++ xs = Y := ⟨_, rfl⟩
  have hYl : Y.length = 24 + m := by rw [← hY, List.length_append, List.length_append, recH_len, le_length, hm]
  have hYr : recS p xs = Y ++ List.replicate (pad8 m) 0 := by rw [← hY, ← hZ, ← hm]; exact recS_eq _ _
  refine sr ?_; refine tla ?_; refine nq ?_; refine sr ?_; refine tlm ?_; refine tv (by first | exact o_conv64 Try.underlying3 Try.underlying81 rfl | exact o_conv Try.underlying3 Try.underlying81 rfl) ?_; refine tl_env (d := 7) (v := .int .u64 ((p : Nat) : Int)) (congrArg (fun z : Nat => Value.int .u64 (z : Int)) (Nat.mod_eq_of_lt (by omega))) ?_; refine tl_c rfl (o_call bd50 rfl (Put64_c (xs := []) (v := p))) ?_; rintro _ _ ⟨a8, c8, rfl, hc8, rfl⟩; refine tlm ?_; refine tv (o_len Try.underlying22 rfl) ?_; refine tv (by first | exact o_conv64 Try.underlying3 Try.underlying81 rfl | exact o_conv Try.underlying3 Try.underlying81 rfl) ?_; refine tl_env (d := 11) (v := .int .u64 ((m : Nat) : Int)) (congrArg (fun z : Nat => Value.int .u64 (z : Int)) (Nat.mod_eq_of_lt (by omega))) ?_; refine tl_c rfl (o_call bd50 rfl (Put64_c (m := 8) (xs := [] ++ le 8 p) (v := m) (hr := rs_sl) (hm := by rw [List.nil_append, le_length]))) ?_; rintro _ _ ⟨a12, c12, rfl, hc12, rfl⟩; refine tla ?_; refine nq ?_; refine sr ?_; refine tlm ?_; refine tlm ?_; refine tlm ?_; refine tl_x rfl (o_buildSliceL (k := 1) (vs := [.slice a12 (8 + 8) c12, .slice a m c]) (l := [.slice a12 (8 + 8) c12, .slice a m c]) Try.underlying149 sz22 z22 rfl rfl (by decide) (by decide) (by intro v hv; simp at hv; rcases hv with rfl | rfl <;> rfl) rfl) ?_; rintro _ _ ⟨b16, rfl, rfl⟩; refine tl_c rfl (o_call bd74 rfl (Sum_2 (xs := recH p m) (ys := xs) rs_sl (recH_len _ _) (recH_b _ _) (by decide) hr.left.left hm hb hml)) ?_
  rintro _ _ ⟨rfl, rfl⟩; refine tv (by first | exact o_conv64 Try.underlying135 Try.underlying81 rfl | exact o_conv Try.underlying135 Try.underlying81 rfl) ?_; refine tl_env (d := 18) (v := .int .u64 ((crc 0 (recH p m ++ xs) : Nat) : Int)) (congrArg (fun z : Nat => Value.int .u64 (z : Int)) (Nat.mod_eq_of_lt (by omega))) ?_; refine tl_c rfl (o_call bd50 rfl (Put64_c)) ?_; rintro _ _ ⟨a19, c19, rfl, hc19, rfl⟩; refine tla ?_; refine nq ?_; refine sr ?_; refine tlm ?_; refine tlm ?_; refine tl_x rfl (o_apR Try.underlying22 Try.underlying22 sz5 by5 z5 rfl (by decide) (by decide) rfl rfl (by repeat (first | with_reducible exact ct_here | apply ct_left)) (by repeat (first | assumption | with_reducible exact rs_sl | with_reducible exact rs_pt0 | exact rs_none | apply Rs.left)) (by first | omega | (simp only [bys_length, ints_length, wds_length, bos_length, List.length_append, List.length_take, List.length_drop, List.length_singleton]; omega)) (by first | exact bys_all _ | exact ints_all _ | exact wds_all _ | exact bos_all _ | rfl) (by first | omega | (simp only [bys_length, ints_length, wds_length, bos_length, List.length_append, List.length_take, List.length_drop, List.length_singleton]; omega)) (by first | exact bys_sn _ _ | exact ints_sn _ _ | exact wds_sn _ _ | exact bos_sn _ _ | exact (bys_append _ _).symm | rfl)) ?_; rintro _ _ ⟨a22, c22, rfl, hc22, rfl⟩; refine tla ?_; refine nq ?_; refine tc_seq ?_; refine tc_block ?_
  refine tc_pre (A' := A * Sl 1 (.slice a22 (24 + m + 0) c22) (24 + m + 0) (bys (Y ++ List.replicate 0 0))) (fun g w h => by have h2 := Dr.sat (A' := A * Sl 1 (.slice a22 (8 + 8 + 8 + m) c22) (8 + 8 + 8 + m) (bys ([] ++ le 8 p ++ le 8 m ++ le 8 (crc 0 (recH p m ++ xs))) ++ bys xs)) (by repeat (first | with_reducible exact dr_refl | apply dr_keep | apply dr_drop)) g w h; rw [hZ, ← bys_append, show [] ++ le 8 p ++ le 8 m ++ le 8 Z ++ xs = Y from hY] at h2; rw [show 24 + m + 0 = 8 + 8 + 8 + m by omega, List.replicate_zero, List.append_nil]; exact h2) ?_; refine tc_loop (fun kk ρ BB => ∃ (i : Nat) (a5 : Option Addr) (c5 : Nat), (i ≤ pad8 m) ∧ (24 + m + i ≤ c5) ∧ kk = pad8 m - i ∧ ρ 5 = .slice a5 (24 + m + i) c5 ∧ Dr BB (A * Sl 1 (.slice a5 (24 + m + i) c5) (24 + m + i) (bys (Y ++ List.replicate i 0)))) (m := pad8 m - (0)) ?_ ?_
  · exact ⟨0, a22, c22, by omega, by omega, rfl, by rw [show 24 + m + 0 = 8 + 8 + 8 + m by omega]; rfl, (by repeat (first | with_reducible exact dr_refl | apply dr_keep | apply dr_drop))⟩
  · intro k ρ B hI
    obtain ⟨i, a5, c5, hp0, hp1, hkk1, hE5, hBA⟩ := hI
    refine tc_pre hBA.sat ?_
    clear hBA
    refine tc_env (d := 5) hE5 ?_
    clear hE5
    refine tc_seq ?_; refine sr ?_; refine tlm ?_; refine tv (o_len Try.underlying22 rfl) ?_; refine tv (o_remN (b := 8) rfl rfl (by decide)) ?_; refine tl_env (d := 25) (v := .int .i64 (((24 + m + i) % 8 : Nat) : Int)) (by first | rfl | (show Value.int .i64 _ = _; congr 1; omega)) ?_; refine tv (o_nei rfl rfl) ?_; refine nq ?_; refine tc_cond rfl (fun h => ?_) (fun h => ?_)
    · have hi : i < pad8 m := by have h9 : (24 + m + i) % 8 ≠ 0 := (by first | omega | (simp at h; omega)); unfold pad8 at *; omega
      have hi8 : i < 8 := by have : pad8 m < 8 := (by unfold pad8; omega); omega
      refine tc_skip ?_; refine q_then_n ?_; refine tc_block ?_; refine tc_reg ?_; refine tlm ?_; refine tl_x rfl (o_buildSliceL (k := 1) (vs := bys [0]) (l := bys [0]) Try.underlying22 sz5 z5 rfl rfl (by decide) (by decide) (by intro v hv; simp only [bys, b8, List.map_cons, List.map_nil, List.mem_cons, List.not_mem_nil, or_false] at hv; rcases hv with rfl; rfl) rfl) ?_; rintro _ _ ⟨b28, rfl, rfl⟩; refine tl_x rfl (o_apB Try.underlying22 Try.underlying22 sz5 by5 z5 rfl (by decide) (by decide) rfl rfl rfl (by repeat (first | with_reducible exact ct_here | apply ct_left)) rfl rfl (by omega) (show _ = bys (Y ++ List.replicate i 0 ++ [0]) by rw [← bys_append])) ?_; rintro _ _ ⟨a29, c29, rfl, hc29, rfl⟩; refine tla ?_; refine tl_nil ?_; refine q_block_n (q_then_n ?_); exact ⟨_, by omega, i + 1, a29, c29, by omega, by omega, rfl, rfl, by rw [List.replicate_succ', ← List.append_assoc]; repeat (first | with_reducible exact dr_refl | apply dr_keep | apply dr_drop)⟩
    · obtain rfl : i = pad8 m := by have h9 : (24 + m + i) % 8 = 0 := (by first | omega | (simp at h; omega)); unfold pad8 at *; omega
      refine tc_exit ?_; refine q_then_e (q_then_e (q_block_x (q_then_n ?_))); refine sr ?_; refine tlm ?_; refine tla ?_; refine nq ?_; refine tc_ret ?_
      rw [hYr, show 24 + up8 m = 24 + m + pad8 m by unfold up8; omega]
      exact ⟨_, _, res1 rfl rfl, fun _ _ h => h, a5, c5, rfl, hp1, rfl⟩
end Go.Vl

namespace Go.Vl
open Go Go.Proofs
/-! ### Cells of records, k each -/
section
variable {α : Type} {f : α → List Value} {k : Nat}
theorem fm_length : ∀ {l : List α} (_ : ∀ a ∈ l, (f a).length = k), (l.flatMap f).length = l.length * k
  | [], _ => by simp
  | a :: l, h => by
    rw [List.flatMap_cons, List.length_append, h a (by simp), fm_length (fun x hx => h x (List.mem_cons_of_mem _ hx)), List.length_cons, Nat.add_mul]; omega
theorem fm_drop : ∀ {l : List α} {i : Nat} (_ : ∀ a ∈ l, (f a).length = k), (l.flatMap f).drop (i * k) = (l.drop i).flatMap f
  | [], i, _ => by simp
  | a :: l, 0, _ => by simp
  | a :: l, i + 1, h => by
    have e : (i + 1) * k = (f a).length + i * k := by rw [h a (by simp), Nat.add_mul]; omega
    rw [e, List.flatMap_cons, List.drop_length_add_append, fm_drop (fun x hx => h x (List.mem_cons_of_mem _ hx)), List.drop_succ_cons]
theorem fm_at {l : List α} {i : Nat} (h : ∀ a ∈ l, (f a).length = k) (hi : i < l.length) : ((l.flatMap f).drop (i * k)).take k = f l[i] := by
  rw [fm_drop h, List.drop_eq_getElem_cons hi, List.flatMap_cons]
  have := h _ (List.getElem_mem hi)
  conv => lhs; arg 1; rw [← this]
  rw [List.take_left]
theorem fm_atj {l : List α} {i j p : Nat} (h : ∀ a ∈ l, (f a).length = k) (hi : i < l.length) (hj : j < k) (hp : p = i * k + j) : (l.flatMap f)[p]? = (f l[i])[j]? := by
  subst hp
  rw [← List.getElem?_drop, fm_drop h, List.drop_eq_getElem_cons hi, List.flatMap_cons, List.getElem?_append_left (by rw [h _ (List.getElem_mem hi)]; exact hj)]
end
/-! ### Iterated assertions -/
section
variable {α : Type} {f : α → SP}
def Bs (f : α → SP) : List α → SP
  | [] => emp
  | a :: l => Bs f l * f a
end
theorem rs_cutC {A : SP} {a : Option Addr} {cap l : Nat} {X : List Nat} (h : Rs A a (bys X)) (hx : X.length ≤ cap) : Rs A (cutAddr a cap l 1) (bys (X.drop l)) := by
  have := rs_cut (l := l) (k := 1) (cap := cap) h (by rw [bys_length]; omega)
  rw [Nat.mul_one] at this
  unfold bys at this ⊢
  rwa [← List.map_drop] at this
theorem bys_takeG (xs : List Nat) (n : Nat) : (bys xs).take n = bys (xs.take n) := by simp [bys, List.map_take]
theorem rs_mid {A : SP} {a : Option Addr} {cap l m : Nat} {X : List Nat} (h : Rs A a (bys X)) (hx : X.length ≤ cap) : Rs A (cutAddr a cap l 1) (bys ((X.drop l).take m)) := by
  rw [← bys_takeG]; exact (rs_cutC h hx).sub m
end Go.Vl

namespace Go.Vl
open Go Go.Proofs
/-- A line: where its contents' list lies, where each content lies and its words; the mark. -/
structure RL where
  v : Value
  rows : List (Value × List Nat)
  mark : Int
def RL.l (x : RL) : LineS := ⟨x.rows.map Prod.snd, x.mark⟩
def rcl (x : RL) : List Value := [x.v, .int .i64 x.mark]
def rowR (p : Value × List Nat) : SP := SlR 1 p.1 64 (bys (lb p.2))
def rlR (x : RL) : SP := Sl 1 x.v x.rows.length (x.rows.map Prod.fst) * Bs rowR x.rows
def rdcs (lv : Value) (s : DevS) (av : Value) : List Value := [.int .i64 ((s.ls.length * 64 : Nat) : Int), lv, .int .i64 s.ops, av, .int .i64 s.cnt, .bool s.off]
section
variable {P : Program} {n : Nat} {Q : Post} {ρ : Env} {r : Nat} {s : DevS} {R : SP}
end
section
variable {r : Nat} {s : DevS} {R F : SP} {lv av : Value} {rls : List RL} {kvs : List Value}
/-- What is read of the device. -/
structure RdevR (A : SP) (r : Nat) (lv : Value) (rls : List RL) (av : Value) (s : DevS) : Prop where
  wf : WfD s
  len : rls.length = s.ls.length
  at_ : ∀ i (h : i < rls.length) (h' : i < s.ls.length), rls[i].l = s.ls[i]
  d : Rs A (some ⟨r, 0, none⟩) (rdcs lv s av)
  lv : ∃ b o c, lv = .slice (some ⟨b, o, none⟩) s.ls.length c ∧ s.ls.length ≤ c ∧ Rs A (some ⟨b, o, none⟩) (rls.flatMap rcl)
  all : ∀ i (h : i < rls.length), ∃ b o c, rls[i].v = .slice (some ⟨b, o, none⟩) rls[i].rows.length c ∧ rls[i].rows.length ≤ c ∧ Rs A (some ⟨b, o, none⟩) (rls[i].rows.map Prod.fst)
  row : ∀ i (h : i < rls.length) j (h' : j < rls[i].rows.length), ∃ b o c, rls[i].rows[j].1 = .slice (some ⟨b, o, none⟩) 64 c ∧ 64 ≤ c ∧ Rs A (some ⟨b, o, none⟩) (bys (lb rls[i].rows[j].2))
theorem RdevR.left {A X : SP} (h : RdevR A r lv rls av s) : RdevR (A * X) r lv rls av s :=
  ⟨h.wf, h.len, h.at_, h.d.left, let ⟨b, o, c, e1, e2, e3⟩ := h.lv; ⟨b, o, c, e1, e2, e3.left⟩, fun i hi => let ⟨b, o, c, e1, e2, e3⟩ := h.all i hi; ⟨b, o, c, e1, e2, e3.left⟩,
    fun i hi j hj => let ⟨b, o, c, e1, e2, e3⟩ := h.row i hi j hj; ⟨b, o, c, e1, e2, e3.left⟩⟩
theorem RdevR.rows {A : SP} (h : RdevR A r lv rls av s) {i : Nat} (hi : i < rls.length) (hi' : i < s.ls.length) : rls[i].rows.length = s.ls[i].st.length := by
  rw [← h.at_ i hi hi']; simp [RL.l]
theorem RdevR.snd {A : SP} (h : RdevR A r lv rls av s) {i j : Nat} (hi : i < rls.length) (hi' : i < s.ls.length) (hj : j < rls[i].rows.length) : rls[i].rows[j].2 = s.ls[i].st[j]'(by rw [← h.rows hi hi']; exact hj) := by
  have := h.at_ i hi hi'
  have e : s.ls[i].st = rls[i].rows.map Prod.snd := by rw [← this]; rfl
  simp only [e, List.getElem_map]
theorem RdevR.mark {A : SP} (h : RdevR A r lv rls av s) {i : Nat} (hi : i < rls.length) (hi' : i < s.ls.length) : rls[i].mark = s.ls[i].mark := by rw [← h.at_ i hi hi']; rfl
end
end Go.Vl

namespace Go.Vl
open Go Go.Proofs
section
variable {A : SP} {r : Nat} {lv av : Value} {rls : List RL} {s : DevS}
theorem RdevR.pos (h : RdevR A r lv rls av s) {i : Nat} (hi : i < rls.length) : 0 < rls[i].rows.length := by
  have h' : i < s.ls.length := by rw [← h.len]; exact hi
  rw [h.rows hi h']
  exact List.length_pos_iff.2 (h.wf.line _ (List.getElem_mem h')).ne
theorem RdevR.small (h : RdevR A r lv rls av s) {i : Nat} (hi : i < rls.length) : rls[i].rows.length ≤ 2199023255552 := by
  have h' : i < s.ls.length := by rw [← h.len]; exact hi
  rw [h.rows hi h']
  exact (h.wf.line _ (List.getElem_mem h')).small
/-- The content that is seen. -/
theorem RdevR.top (h : RdevR A r lv rls av s) {i : Nat} (hi : i < rls.length) (hi' : i < s.ls.length) : ∃ b o c, (rls[i].rows.map Prod.fst)[rls[i].rows.length - 1]? = some (.slice (some ⟨b, o, none⟩) 64 c) ∧ 64 ≤ c ∧ Rs A (some ⟨b, o, none⟩) (bys (lb (seenL s.ls[i]))) := by
  have hp := h.pos hi
  obtain ⟨b, o, c, e1, e2, e3⟩ := h.row i hi (rls[i].rows.length - 1) (by omega)
  refine ⟨b, o, c, ?_, e2, ?_⟩
  · rw [List.getElem?_map, List.getElem?_eq_getElem (by omega)]; simp [e1]
  · rw [h.snd hi hi' (by omega)] at e3
    have e : seenL s.ls[i] = s.ls[i].st[rls[i].rows.length - 1]'(by rw [← h.rows hi hi']; omega) := by
      unfold seenL; simp only [← h.rows hi hi']
      simp [List.getD, show rls[i].rows.length - 1 < s.ls[i].st.length by rw [← h.rows hi hi']; omega]
    rw [e]; exact e3
end
end Go.Vl

namespace Go.Vl
open Go Go.Proofs
theorem Foc.words {A A' : SP} {hvs : List Value} {held : List (List Nat)} (h : Foc A (Words hvs held) (Words hvs held) A') (hl : hvs.length = held.length) {g : Gh} {w : World} (hs : sat g w A) :
    ∀ i (hi : i < held.length), ∃ a c, hvs[i]? = some (.slice a held[i].length c) ∧ Rd A a (wds held[i]) := fun i hi => by
  obtain ⟨R, hA, _⟩ := h
  obtain ⟨S, h1, _⟩ := words_get hl hi
  rw [h1, ← star_assoc] at hA
  obtain ⟨a, c, e, _, _, hr⟩ := sl_have' hA hs
  exact ⟨a, c, by rw [List.getElem?_eq_getElem (by omega), e], hr⟩
/-- What PmemLasts looks at, of a book and a device behind a loss of power. -/
structure Lasts (P : PlS) (s2 : DevS) : Prop where
  len : s2.ls.length = P.marks.length
  wf : WfD s2
  wfp : WfD P.s
  seen : ∀ i (h : i < P.seen.length), nm (((imgS P.s).drop (8 * i)).take 8) = P.seen[i]
  held : ∀ i (h : i < P.held.length), nm (((imgS s2).drop (8 * i)).take 8) ∈ P.held[i]
  last : ∀ i (h : i < P.sure.length) (h' : i < P.last.length), P.sure[i] = true → nm (((imgS s2).drop (8 * i)).take 8) = P.last[i]
end Go.Vl

namespace Go.Vl
open Go Go.Proofs
/-- The book tells the device. -/
structure InvL (P : PlS) (w : Nat) (l : LineS) : Prop where
  seen : (seenL l).getD (w % 8) 0 = P.seen.getD w 0
  held : ∀ σ ∈ l.st, σ.getD (w % 8) 0 ∈ P.held.getD w []
  last : P.sure.getD w false = true → ∀ σ ∈ l.st, σ.getD (w % 8) 0 = P.last.getD w 0
  mark : P.marks.getD (w / 8) 0 = 1 → l.mark = (l.st.length : Int) - 1
def Inv (P : PlS) : Prop := ∀ w l, w < P.seen.length → P.s.ls[w / 8]? = some l → InvL P w l
end Go.Vl

namespace Go.Vl
open Go Go.Proofs
instance : Inhabited StepC := ⟨⟨0, 0, .bool false, 0, .bool false, .bool false, .bool false⟩⟩
end Go.Vl

namespace Go.Vl
open Go Go.Proofs
section
variable {P : Program} {n : Nat} {ρ : Env} {dst : Option Nat} {ty : TypeId} {pos : String} {after : Array Edge} {gd : Option (Nat × Bool)} {A : SP}
end
def rdT (n : Nat) (I : List Nat) : List Int × Int := if I.take 64 = sbB [n, 128, 32768, 32896, (n - 32896) / 256, 0] then ([(n : Int), ((128 : Nat) : Int), ((32768 : Nat) : Int), ((32896 : Nat) : Int), (((n - 32896) / 256 : Nat) : Int)], 0) else ([0, 0, 0, 0, 0], 100)
end Go.Vl

namespace Go.Vl
open Go Go.Proofs
def wk1 : DevS := (bytesP 60 [1, 1, 1, 1, 1, 1, 1, 1] (newS 2)).2
def wk2 : DevS := (pubP 8 258 wk1).2
def wk3 : DevS := (crS [] wk2).2
def wk4 : DevS := { wk3 with off := false }
def nk1 : DevS := (crS [] (newS 1)).2
end Go.Vl

namespace Go.Vl
open Go Go.Proofs
/-- The mark of a place. -/
def mk (i k : Nat) : Nat := (i * 31 + k * 7 + 1) % 256
/-- The marks of a list. -/
def mks (i n : Nat) : List Nat := (List.range n).map (mk i)
def mkL (j : Nat) (l : List Nat) : List Nat := mks j l.length
/-- Lists that bear their marks; the first of them is number j. -/
def PM : Nat → List Value → List Nat → SP
  | j, v :: vs, n :: ns => PM (j + 1) vs ns * Sl 1 v n (bys (mks j n))
  | _, [], [] => emp
  | _, _, _ => pure_ False
/-- Such lists, and what they were grown to. -/
def GP : Nat → List Value → List Value → List Nat → SP
  | j, v :: vs, g :: gs, n :: ns => GP (j + 1) vs gs ns * Gr v n (bys (mks j n)) g (n + 70) (bys (mks j (n + 70)))
  | _, [], [], [] => emp
  | _, _, _, _ => pure_ False
end Go.Vl

namespace Go.Vl
open Go Go.Proofs
/-- What Read and Root answer. -/
def rdA (s : DevS) : List Int × Int := if s.off = true then ([0, 0, 0, 0, 0], 5) else if 578 ≤ s.ls.length then rdT (s.ls.length * 64) (imgS s) else ([0, 0, 0, 0, 0], 100)
def rootA (s : DevS) : Nat × Int := if (rdA s).2 ≠ 0 then (0, (rdA s).2) else wordP 64 s
end Go.Vl

namespace Go.Vl
open Go Go.Proofs
theorem old_heap' {W w : World} {g : Gh} (h : sat g w (old W)) {k : Nat} (hk : k < W.heap.size) : w.heap[k]? = W.heap[k]? := by
  obtain ⟨x, rfl, hx⟩ := h.hp
  have := Array.getElem?_eq_getElem hk
  rw [this]; exact hx _ _ true (by simp [this])
theorem cell_old' {W : World} {b off : Nat} {v : Value} (h : W.cell? ⟨b, off, none⟩ = some v) : Cell (old W) b off v := fun g w hs => by
  have hb : b < W.heap.size := by
    rcases Nat.lt_or_ge b W.heap.size with h1 | h1
    · exact h1
    · exfalso
      have : W.heap[b]? = none := Array.getElem?_eq_none h1
      simp [World.cell?, this] at h
  have := old_heap' hs hb
  rw [← h]; simp only [World.cell?, this]
theorem rs_old {W : World} {a : Addr} {xs : List Value} (h : ∀ i v, xs[i]? = some v → W.cell? (a.add i) = some v) : Rs (old W) (some a) xs := by
  cases xs with
  | nil => exact rs_nil
  | cons x l =>
    obtain ⟨b, off, spot⟩ := a
    have h0 := h 0 x rfl
    have hspot : spot = none := by simpa [Addr.add] using World.cell?_spot h0
    subst hspot
    refine fun g w hs i v hv => ⟨b, off, rfl, ?_⟩
    have := h i v hv
    rw [WideShapes.add_plain] at this
    exact cell_old' this g w hs
/-- Whatever lies there as a value of type t, by the argument's own reading, r holds of. -/
def Rdb {α : Type} (P : Program) (W : World) (t : TypeId) (r : List Value → α → Prop) : Prop :=
  ∀ (H : Type) (enc : TypeId × Value → H) (spare : Nat → Bool) (held : Bool) (fuel : Nat) (cs : List Value) (d : DataW H) (pl : List MemPlace),
    DataW.trod enc P W 0 spare held fuel t cs = some (d, pl) → (∀ n ∈ d.weights P t, n ≤ reachBytes) → ∃ x, r cs x
theorem Rdb.mono {α β : Type} {P : Program} {W : World} {t : TypeId} {r : List Value → α → Prop} {q : List Value → β → Prop} (h : Rdb P W t r) (k : ∀ cs x, r cs x → ∃ y, q cs y) : Rdb P W t q :=
  fun H enc sp hd fu cs d pl h1 h2 => by obtain ⟨x, hx⟩ := h H enc sp hd fu cs d pl h1 h2; exact k cs x hx
def PInt (k : IntKind) (cs : List Value) (n : Int) : Prop := cs = [.int k n] ∧ (Lit.int k n).wf = true
theorem rdb_int {P : Program} {W : World} {t : TypeId} {k : IntKind} (ht : P.underlying t = some (.int k)) : Rdb P W t (PInt k) := fun H enc sp hd fu cs d pl h _ => by
  obtain ⟨n, e, _, hw⟩ := DataW.trod_int ht h
  exact ⟨n, e, hw⟩
def PBool (cs : List Value) (b : Bool) : Prop := cs = [.bool b]
theorem rdb_bool {P : Program} {W : World} {t : TypeId} (ht : P.underlying t = some .bool) : Rdb P W t PBool := fun H enc sp hd fu cs d pl h _ => by
  obtain ⟨b, e, _⟩ := DataW.trod_bool ht h
  exact ⟨b, e⟩
/-- A slice: its elements' cells, and what each is. -/
def PSl {α : Type} (A : SP) (k b : Nat) (r : List Value → α → Prop) (cs : List Value) (xs : List α) : Prop :=
  ∃ (a : Option Addr) (cap : Nat) (Cs : List (List Value)), cs = [.slice a xs.length cap] ∧ xs.length ≤ cap ∧ xs.length * b ≤ reachBytes ∧ Cs.length = xs.length ∧ (∀ i (h : i < xs.length) (h' : i < Cs.length), Cs[i].length = k ∧ r Cs[i] xs[i]) ∧ Rs A a Cs.flatten
theorem weightsAll_mem {H : Type} {P : Program} {e : TypeId} : ∀ {l : List (DataW H)} {d : DataW H}, d ∈ l → ∀ n ∈ d.weights P e, n ∈ DataW.weightsAll P e l
  | x :: l, d, h, n, hn => by
    simp only [DataW.weightsAll, List.mem_append]
    rcases List.mem_cons.1 h with rfl | h
    · exact .inl hn
    · exact .inr (weightsAll_mem h n hn)
theorem flat_at {k : Nat} : ∀ {Cs : List (List Value)} (_ : ∀ c ∈ Cs, c.length = k) {i j : Nat} (_ : j < k) (hi : i < Cs.length), Cs.flatten[i * k + j]? = Cs[i][j]?
  | c :: Cs, h, 0, j, hj, _ => by
    rw [Nat.zero_mul, Nat.zero_add, List.flatten_cons, List.getElem?_append_left (by rw [h c (by simp)]; exact hj)]; rfl
  | c :: Cs, h, i + 1, j, hj, hi => by
    have hc := h c (by simp)
    rw [List.flatten_cons, List.getElem?_append_right (by rw [hc, Nat.add_mul]; omega), hc, show (i + 1) * k + j - k = i * k + j by rw [Nat.add_mul]; omega]
    exact flat_at (fun x hx => h x (List.mem_cons_of_mem _ hx)) hj (by simpa using hi)
theorem flat_length {k : Nat} : ∀ {Cs : List (List Value)} (_ : ∀ c ∈ Cs, c.length = k), Cs.flatten.length = Cs.length * k
  | [], _ => by simp
  | c :: Cs, h => by
    rw [List.flatten_cons, List.length_append, h c (by simp), flat_length (fun x hx => h x (List.mem_cons_of_mem _ hx)), List.length_cons, Nat.add_mul]; omega
theorem rdb_slice {α : Type} {P : Program} {W : World} {t e : TypeId} {k b : Nat} {r : List Value → α → Prop} (ht : P.underlying t = some (.slice e)) (hk : P.cellsOf e = k) (hb : P.bytesOf e = b) (hk0 : 0 < k) (hr : Rdb P W e r) : Rdb P W t (PSl (old W) k b r) := fun H enc sp hd fu cs d pl h hw => by
  rcases Deep.open_slice ht h with ⟨rfl, _⟩ | ⟨a, len, cap, m, n, D, Pl, rfl, _, hl, _, hm, hx, hel⟩
  · exact ⟨[], none, 0, [], rfl, Nat.le_refl _, by simp, rfl, fun i h => by simp at h, rs_nil⟩
  · have hlm : len ≤ m := by rw [hm]; split <;> omega
    simp only [Prod.mk.injEq] at hx
    obtain ⟨rfl, _⟩ := hx
    have hall : ∀ n ∈ DataW.weights P t (DataW.slice ((List.range len).map D) ((List.range (m - len)).map fun j => D (len + j))), n ≤ reachBytes := hw
    have hw1 : (len + (m - len)) * P.bytesOf e ≤ reachBytes := by
      have := hall ((len + (m - len)) * P.bytesOf e) (by simp [DataW.weights, ht])
      exact this
    have hex : ∀ i, i < len → ∃ p : List Value × α, p.1.length = k ∧ r p.1 p.2 ∧ ∀ j v, p.1[j]? = some v → W.cell? (a.add (i * k + j)) = some v := fun i hi => by
      obtain ⟨cs', h1, h2⟩ := hel i (by omega)
      rw [hk] at h1
      obtain ⟨_, hlen, h3⟩ := World.cells?_some h1
      obtain ⟨x, hx⟩ := hr H enc sp hd n cs' (D i) (Pl i) h2 (fun n hn => hall n (by
        simp only [DataW.weights, ht, List.mem_cons, List.mem_append]
        refine .inr (.inl (weightsAll_mem (d := D i) ?_ n hn))
        exact List.mem_map.2 ⟨i, List.mem_range.2 hi, rfl⟩))
      refine ⟨(cs', x), hlen, hx, fun j v hv => ?_⟩
      have hj : j < k := by have h9 : j < cs'.length := lt_at hv; omega
      have := h3 j hj
      rw [Deep.add_add] at this
      rw [this, hv]
    rcases Nat.eq_zero_or_pos len with h0 | h0
    · subst h0
      exact ⟨[], some a, cap, [], rfl, Nat.zero_le _, by simp, rfl, fun i h => by simp at h, rs_nil⟩
    · obtain ⟨p0, _⟩ := hex 0 h0
      haveI : Inhabited (List Value × α) := ⟨p0⟩
      obtain ⟨f, hf⟩ := Deep.choose_lt hex
      refine ⟨(List.range len).map fun i => (f i).2, some a, cap, (List.range len).map fun i => (f i).1, by simp, by simpa using hl, ?_, by simp, fun i h h' => ?_, rs_old fun i v hv => ?_⟩
      · simp only [List.length_map, List.length_range, ← hb]
        exact Nat.le_trans (Nat.mul_le_mul_right _ (by omega)) hw1
      · simp only [List.length_map, List.length_range] at h
        simp only [List.getElem_map, List.getElem_range]
        exact ⟨(hf i h).1, (hf i h).2.1⟩
      · have hCk : ∀ c ∈ (List.range len).map fun i => (f i).1, c.length = k := fun c hc => by
          obtain ⟨i, hi, rfl⟩ := List.mem_map.1 hc
          exact (hf i (List.mem_range.1 hi)).1
        have hi := lt_at hv
        rw [flat_length hCk, List.length_map, List.length_range] at hi
        have hq : i / k < len := Nat.div_lt_of_lt_mul (by rw [Nat.mul_comm]; exact hi)
        have hm2 : i % k < k := Nat.mod_lt _ hk0
        have e : i = i / k * k + i % k := (Nat.div_add_mod' i k).symm
        rw [e, flat_at hCk hm2 (by simpa using hq)] at hv
        simp only [List.getElem_map, List.getElem_range] at hv
        rw [e]
        exact (hf (i / k) hq).2.2 _ v hv
/-- The fields of a struct, one by one. -/
theorem rdb_fields {P : Program} {W : World} {t : TypeId} {fs : Array Field} (ht : P.underlying t = some (.struct fs)) {H : Type} {enc : TypeId × Value → H} {sp : Nat → Bool} {hd : Bool} {fu : Nat} {cs : List Value} {d : DataW H} {pl : List MemPlace}
    (h : DataW.trod enc P W 0 sp hd fu t cs = some (d, pl)) (hw : ∀ n ∈ d.weights P t, n ≤ reachBytes) : cs.length = P.cellsOf t ∧
    ∀ (j : Nat) (f : Field), fs[j]? = some f → ∀ {α : Type} {r : List Value → α → Prop}, Rdb P W f.type r → ∃ x, r ((cs.drop f.offset).take (P.cellsOf f.type)) x := by
  obtain ⟨xs, n, _, hx, hl, hlen, hf⟩ := DataW.trod_struct ht h
  refine ⟨hl, fun j f hj α r hr => ?_⟩
  simp only [Prod.mk.injEq] at hx
  obtain ⟨rfl, _⟩ := hx
  have hj' : j < xs.length := by
    have h1 : j < fs.size := (Array.getElem?_eq_some_iff.1 hj).1
    have h2 : xs.length = fs.size := by simpa using hlen
    omega
  have := hf j f hj
  rw [List.getElem?_eq_getElem hj'] at this
  refine hr H enc sp hd n _ xs[j].1 xs[j].2 this (fun m hm => hw m ?_)
  simp only [DataW.weights, ht]
  exact DataW.weights_mem_each (ts := fs.toList.map (·.type)) (ds := xs.map (·.1)) (j := j) (t := f.type) (d := xs[j].1) (by simp [hj]) (by simp [hj']) m hm
theorem flat1 {α : Type} {r : List Value → α → Prop} {f : α → Value} : ∀ {Cs : List (List Value)} {xs : List α} (_ : Cs.length = xs.length) (_ : ∀ i (h : i < xs.length) (h' : i < Cs.length), Cs[i] = [f xs[i]]), Cs.flatten = xs.map f
  | [], [], _, _ => rfl
  | c :: Cs, x :: xs, hl, h => by
    have h0 := h 0 (by simp) (by simp)
    simp only [List.getElem_cons_zero] at h0
    rw [List.flatten_cons, h0, flat1 (r := r) (f := f) (Cs := Cs) (xs := xs) (by simpa using hl) (fun i hi hi' => h (i + 1) (by simpa using hi) (by simpa using hi'))]; rfl
/-- Bytes. -/
def PBys (A : SP) (cs : List Value) (xs : List Nat) : Prop := ∃ a cap, cs = [.slice a xs.length cap] ∧ xs.length ≤ cap ∧ xs.length ≤ 140737488351232 ∧ Rs A a (bys xs) ∧ ∀ x ∈ xs, x < 256
def PInts (A : SP) (cs : List Value) (xs : List Int) : Prop := ∃ a cap, cs = [.slice a xs.length cap] ∧ xs.length ≤ cap ∧ xs.length ≤ 17592186043904 ∧ Rs A a (ints xs) ∧ ∀ x ∈ xs, -9223372036854775808 ≤ x ∧ x ≤ 9223372036854775807
theorem i64_wf {x : Int} (h : (Lit.int .i64 x).wf = true) : -9223372036854775808 ≤ x ∧ x ≤ 9223372036854775807 := Go.bounds_i64 h
theorem rdb_bys {P : Program} {W : World} {t e : TypeId} (ht : P.underlying t = some (.slice e)) (he : P.underlying e = some (.int .u8)) (hk : P.cellsOf e = 1) (hb : P.bytesOf e = 1) : Rdb P W t (PBys (old W)) :=
  (rdb_slice ht hk hb (by decide) (rdb_int he)).mono fun cs zs ⟨a, cap, Cs, e1, hc, hs, hl, hx, hr⟩ => by
    have hz : ∀ z ∈ zs, 0 ≤ z ∧ z ≤ 255 := fun z hz => by
      obtain ⟨i, hi, rfl⟩ := List.mem_iff_getElem.1 hz
      exact Go.bounds_u8 (hx i hi (by omega)).2.2
    have e2 : Cs.flatten = bys (zs.map Int.toNat) := by
      rw [flat1 (r := PInt .u8) (f := fun z : Int => .int .u8 z) hl (fun i h h' => (hx i h h').2.1), bys, List.map_map]
      refine List.map_congr_left fun z hzm => ?_
      have := hz z hzm
      simp only [Function.comp, b8]; congr 1; omega
    refine ⟨zs.map Int.toNat, a, cap, by simpa using e1, by simpa using hc, ?_, by rw [← e2]; exact hr, fun x hx => ?_⟩
    · simp only [List.length_map]; unfold reachBytes at hs; omega
    · obtain ⟨z, hzm, rfl⟩ := List.mem_map.1 hx
      have := hz z hzm; omega
end Go.Vl

namespace Go.Vl
open Go Go.Proofs
abbrev ub {H : Type} (d : DataW H) : Nat := Go.Proofs.Ytpjjmbmmfelooaa.Rows.uptoBulk d
abbrev ubs {H : Type} (l : List (DataW H)) : Nat := Go.Proofs.Ytpjjmbmmfelooaa.Rows.uptoBulkAll l
/-- Whatever lies there as a value of type t, by the argument's own reading, r holds of, and of how much. -/
def Rdu {α : Type} (P : Program) (W : World) (t : TypeId) (r : List Value → α → Prop) (sz : α → Nat) : Prop :=
  ∀ (H : Type) (enc : TypeId × Value → H) (spare : Nat → Bool) (held : Bool) (fuel : Nat) (cs : List Value) (d : DataW H) (pl : List MemPlace),
    DataW.trod enc P W 0 spare held fuel t cs = some (d, pl) → ∃ x, r cs x ∧ sz x ≤ ub d
theorem Rdu.mono {α β : Type} {P : Program} {W : World} {t : TypeId} {r : List Value → α → Prop} {s : α → Nat} {q : List Value → β → Prop} {z : β → Nat} (h : Rdu P W t r s) (k : ∀ cs x, r cs x → ∃ y, q cs y ∧ z y ≤ s x) : Rdu P W t q z :=
  fun H enc sp hd fu cs d pl h1 => by
    obtain ⟨x, hx, hs⟩ := h H enc sp hd fu cs d pl h1
    obtain ⟨y, hy, hz⟩ := k cs x hx
    exact ⟨y, hy, by omega⟩
/-- A slice: its elements' cells, and what each is. -/
def PSu {α : Type} (A : SP) (k : Nat) (r : List Value → α → Prop) (cs : List Value) (xs : List α) : Prop :=
  ∃ (a : Option Addr) (cap : Nat) (Cs : List (List Value)), cs = [.slice a xs.length cap] ∧ xs.length ≤ cap ∧ Cs.length = xs.length ∧ (∀ i (h : i < xs.length) (h' : i < Cs.length), Cs[i].length = k ∧ r Cs[i] xs[i]) ∧ Rs A a Cs.flatten
def szL {α : Type} (sz : α → Nat) (xs : List α) : Nat := (xs.map sz).sum + 1
/-- Bytes. -/
def PByU (A : SP) (cs : List Value) (xs : List Nat) : Prop := ∃ a cap, cs = [.slice a xs.length cap] ∧ xs.length ≤ cap ∧ Rs A a (bys xs) ∧ ∀ x ∈ xs, x < 256
def PInU (A : SP) (cs : List Value) (xs : List Int) : Prop := ∃ a cap, cs = [.slice a xs.length cap] ∧ xs.length ≤ cap ∧ Rs A a (ints xs) ∧ ∀ x ∈ xs, -9223372036854775808 ≤ x ∧ x ≤ 9223372036854775807
end Go.Vl

namespace Go.Vl
open Go Go.Proofs
/-- An operation's cells. -/
structure Op9 where
  k : Int
  q : Int
  n : Int
  a : Option Addr
  c : Nat
  b : List Nat
  v : Nat
  ka : Option Addr
  kc : Nat
  kp : List Int
def Op9.cells (t : Op9) : List Value := [.int .i64 t.k, .int .i64 t.q, .int .i64 t.n, .slice t.a t.b.length t.c, .int .u64 (t.v : Nat), .slice t.ka t.kp.length t.kc]
structure Op9W (A : SP) (t : Op9) : Prop where
  cap : t.b.length ≤ t.c
  rs : Rs A t.a (bys t.b)
  byt : ∀ x ∈ t.b, x < 256
  v : t.v < 18446744073709551616
  kcap : t.kp.length ≤ t.kc
  krs : Rs A t.ka (ints t.kp)
  kb : ∀ x ∈ t.kp, -9223372036854775808 ≤ x ∧ x ≤ 9223372036854775807
  q : -9223372036854775808 ≤ t.q ∧ t.q ≤ 9223372036854775807
  n : -9223372036854775808 ≤ t.n ∧ t.n ≤ 9223372036854775807
def Op9.sz (t : Op9) : Nat := t.b.length + t.kp.length + 1
def ocs (l : List Op9) : List Value := l.flatMap Op9.cells
def POps (A : SP) (cs : List Value) (ops : List Op9) : Prop := ∃ a cap, cs = [.slice a ops.length cap] ∧ ops.length ≤ cap ∧ Rs A a (ocs ops) ∧ ∀ t ∈ ops, Op9W A t
/-! ### An operation on the device alone -/
def rawS (t : Op9) (s : DevS) : DevS := if t.k = 7 then (sto ((wi t.q 256 : Nat) : Int) (t.b.take (256 - wi t.q 256)) s).2 else if t.k = 8 then (fl1 ((wi t.q 256 : Nat) : Int) s).2 else if t.k = 9 then (fe s).2 else s
theorem room_le {a b : Nat} {s : DevS} (h : Room a s) (hab : b ≤ a) : Room b s := fun l hl => Nat.le_trans (Nat.add_le_add_left hab _) (h l hl)
def rawL (l : List Op9) (s : DevS) : DevS := l.foldl (fun s t => rawS t s) s
/-- The same, but what would be stored into the range is passed over. -/
def rawB (at_ m : Nat) (t : Op9) (s : DevS) : DevS := if t.k = 7 ∧ wi t.q 256 < at_ + m ∧ at_ < wi t.q 256 + t.b.length then s else rawS t s
def rawLB (at_ m : Nat) (l : List Op9) (s : DevS) : DevS := l.foldl (fun s t => rawB at_ m t s) s
attribute [local irreducible] Sl pt ro Dev imgS
theorem Within_c {A : SP} {i n : Int} (hn : 0 < n ∧ n ≤ 9223372036854775807 := by omega) :
    Fn Try.prog 7 #[.int .i64 i, .int .i64 n] (A) (fun r B => r = .int .i64 (i % n) ∧ A = B) := by
  refine fn_enterW (args := [.int .i64 i, .int .i64 n]) Try.func7 rfl Try.ntmps7 (by simp) ?_
  have hb := tmod_lt' (a := i) hn.1
  refine sr ?_; refine tla ?_; refine nq ?_; refine sr ?_; refine tlm ?_; refine tlm ?_; refine tv (o_rem (a := i) (b := n) rfl rfl (by omega)) ?_; refine tla ?_; refine nq ?_; refine tc_seq ?_; refine sr ?_; refine tlm ?_; refine tv (o_lss rfl rfl) ?_; refine nq ?_; refine tc_cond rfl (fun h => ?_) (fun h => ?_)
  · try simp only [lv1, lv2, lv3, lv4, lv5, lv6, Bool.not_true, Bool.not_false] at h
    refine tc_reg ?_; refine tlm ?_; refine tlm ?_; refine tv (o_addI (a := i.tmod n) (b := n) rfl rfl (by omega)) ?_; refine tla ?_; refine nq ?_; refine sr ?_; refine tlm ?_; refine tla ?_; refine nq ?_; refine tc_ret ?_; exact ⟨.int .i64 (i.tmod n + n), A, res1 rfl rfl, fun _ _ h => h, by rw [within_neg hn.1 h], rfl⟩
  · try simp only [lv1, lv2, lv3, lv4, lv5, lv6, Bool.not_true, Bool.not_false] at h
    refine tc_skip ?_; refine q_then_n ?_; refine sr ?_; refine tlm ?_; refine tla ?_; refine nq ?_; refine tc_ret ?_; exact ⟨.int .i64 (i.tmod n), A, res1 rfl rfl, fun _ _ h => h, by rw [within_pos hn.1 h], rfl⟩
end Go.Vl

namespace Go.Vl
open Go Go.Proofs
theorem done_room {r : Nat} {s : DevS} (hw : WfD s) (h : Room r s) : Room r (doneS s) := by
  rcases done_loss (X := fun _ _ => True) hw (fun _ _ _ _ _ => trivial) with ⟨_, h2, _⟩ | ⟨_, h1, h2, h3, _, h5⟩
  · unfold Room; rw [h2]; exact h
  · intro l hl
    have hp := hw.pos
    have h0 := h _ (List.getElem_mem hp)
    have h4 := List.length_pos_iff.2 (hw.line _ (List.getElem_mem hp)).ne
    have := h3 l hl
    omega
theorem storeF_room : ∀ (m : Nat) {p r : Nat} {b : List Nat} {s : DevS}, b.length = m → WfD s → (∀ x ∈ b, x < 256) → Room (r + m) s → Room r (storeF b.length p b s).2 ∧ WfD (storeF b.length p b s).2 := by
  intro m
  induction m using Nat.strongRecOn with
  | _ m ih =>
    intro p r b s hm hw hb hroom
    by_cases h0 : b = []
    · subst h0
      rw [storeF_nil]
      exact ⟨room_le hroom (by omega), hw⟩
    · have hpos : 0 < b.length := List.length_pos_iff.2 h0
      have hr1 : Room 1 s := room_le hroom (by omega)
      have hwL := layS_wf (at_ := p - p % 8) hw hr1 (stW_nm (p := p) (s := s) hb)
      have hroom2 : Room (r + (m - min m (8 - p % 8))) (layS (p - p % 8) (nm (stW p b s)) s) := fun l hl => by
        have := onLine_room (r := r + m - 1) (f := layL ((p - p % 8) % 64 / 8) (nm (stW p b s))) (i := (p - p % 8) / 64) (fun l hl => by have := hroom l hl; omega) (fun l => by simp [layL]) l hl
        omega
      have hk : (b.drop (8 - p % 8)).length = m - min m (8 - p % 8) := by rw [List.length_drop]; omega
      rw [storeF_step h0]
      split
      · exact ⟨room_le (done_room hwL hroom2) (by omega), doneS_wf hwL⟩
      · exact ih (m - min m (8 - p % 8)) (by omega) hk (doneS_wf hwL) (fun x hx => hb x (List.mem_of_mem_drop hx)) (done_room hwL hroom2)
theorem fence_wf {s : DevS} (hw : WfD s) : WfD (fenceS s) := ⟨by simp [fenceS]; exact hw.pos, by simp [fenceS]; exact hw.top, fun l hl => by
  simp only [fenceS, List.mem_map] at hl
  obtain ⟨l0, h0, rfl⟩ := hl
  exact fenceL_wf (hw.line l0 h0), hw.arms, hw.after, hw.keeps⟩
theorem flF_room {r : Nat} : ∀ (k q : Nat) (s : DevS), WfD s → Room r s → Room r (flF k q s).2 ∧ WfD (flF k q s).2
  | 0, q, s, hw, h => by
    rw [flF_zero]
    unfold fe
    split
    · exact ⟨h, hw⟩
    · refine ⟨done_room (fence_wf hw) fun l hl => ?_, doneS_wf (fence_wf hw)⟩
      simp only [fenceS, List.mem_map] at hl
      obtain ⟨l0, h0, rfl⟩ := hl
      have h3 : (fenceL l0).st.length ≤ l0.st.length := by unfold fenceL; split <;> simp
      have := h l0 h0
      omega
  | k + 1, q, s, hw, h => by
    have hk : Room r (fl1 ((q * 64 : Nat) : Int) s).2 ∧ WfD (fl1 ((q * 64 : Nat) : Int) s).2 := by
      unfold fl1
      split
      · exact ⟨h, hw⟩
      · refine ⟨done_room (flushS_wf hw) fun l hl => ?_, doneS_wf (flushS_wf hw)⟩
        unfold flushS onLine at hl
        split at hl
        · rcases List.mem_or_eq_of_mem_set hl with h1 | h1
          · exact h l h1
          · rw [h1]
            rename_i l0 e
            exact h l0 (List.mem_of_getElem? e)
        · exact h l hl
    show Room r (if _ then _ else _ : Int × DevS).2 ∧ WfD (if _ then _ else _ : Int × DevS).2
    split
    · exact hk
    · exact flF_room k (q + 1) _ hk.2 hk.1
/-- Steps, one behind the other. -/
def fmtF : List (Nat × List Nat) → DevS → Int × DevS
  | [], s => (0, s)
  | t :: l, s => if (bytesP (t.1 : Int) t.2 s).1 ≠ 0 then bytesP (t.1 : Int) t.2 s else fmtF l (bytesP (t.1 : Int) t.2 s).2
def fst4 (n : Nat) : List (Nat × List Nat) := [(0, (List.replicate 64 0)), (64, (List.replicate 64 0)), (128, (List.replicate 64 0)), (0, sbB [n, 128, 32768, 32896, (n - 32896) / 256, 0])]
def stC (l : List (Nat × List Nat)) : List Value := l.flatMap fun t => .int .i64 (t.1 : Int) :: bys t.2
/-- What Format answers, and the device behind it. -/
def fmA (n : Nat) (s : DevS) : List Int × Int := if (fmtF (fst4 n) s).1 ≠ 0 then ([0, 0, 0, 0, 0], (fmtF (fst4 n) s).1) else ([(n : Int), ((128 : Nat) : Int), ((32768 : Nat) : Int), ((32896 : Nat) : Int), (((n - 32896) / 256 : Nat) : Int)], 0)
end Go.Vl

namespace Go.Vl
open Go Go.Proofs
def zz : List Nat := List.replicate 64 0
def LostI (n : Nat) (xs I : List Nat) : Prop := I.length = n ∧ I.drop 192 = xs.drop 192 ∧ (I.take 192 = xs.take 192 ∨ I.take 64 ≠ sbB [n, 128, 32768, 32896, (n - 32896) / 256, 0] ∨ (I.drop 64).take 128 = List.replicate 128 0)
def DoneI (n : Nat) (xs I : List Nat) : Prop := I.length = n ∧ I.drop 192 = xs.drop 192 ∧ I.take 64 = sbB [n, 128, 32768, 32896, (n - 32896) / 256, 0] ∧ (I.drop 64).take 128 = List.replicate 128 0
end Go.Vl

namespace Go.Vl
open Go Go.Proofs
def PSteps (A : SP) (cs : List Value) (ss : List StepC) : Prop := ∃ a cap, cs = [.slice a ss.length cap] ∧ ss.length ≤ cap ∧ ss.length ≤ 1353245080300 ∧ Rs A a (scs ss) ∧ ∀ t ∈ ss, t.v < 18446744073709551616
end Go.Vl

namespace Go.Vl
open Go Go.Proofs
structure ImC where
  sz : Int
  fl : Int
  ha : Option Addr
  hcp : Nat
  hd : List Nat
  rt : Bool
  tn : Int
def ImC.cells (t : ImC) : List Value := [.int .i64 t.sz, .int .u8 t.fl, .slice t.ha t.hd.length t.hcp, .bool t.rt, .int .i64 t.tn]
def PImg (A : SP) (cs : List Value) (t : ImC) : Prop := cs = t.cells ∧ Rs A t.ha (bys t.hd) ∧ (∀ x ∈ t.hd, x < 256) ∧ t.hd.length ≤ t.hcp ∧ t.hd.length ≤ 140737488351232 ∧ (0 ≤ t.fl ∧ t.fl < 256) ∧ (-9223372036854775808 ≤ t.tn ∧ t.tn ≤ 9223372036854775807) ∧ (-9223372036854775808 ≤ t.sz ∧ t.sz ≤ 9223372036854775807)
end Go.Vl

namespace Go.Vl
open Go Go.Proofs
/-- Rows that are read. -/
structure RwF (A : SP) (a : Option Addr) (vs : List Value) (ls : List (List Nat)) : Prop where
  len : vs.length = ls.length
  rd : Rs A a vs
  row : ∀ i (h : i < ls.length), ∃ b c, vs[i]? = some (.slice b ls[i].length c) ∧ Rs A b (bys ls[i])
theorem RwF.left {A X : SP} {a : Option Addr} {vs : List Value} {ls : List (List Nat)} (h : RwF A a vs ls) : RwF (A * X) a vs ls := ⟨h.len, h.rd.left, fun i hi => let ⟨b, c, e, hr⟩ := h.row i hi; ⟨b, c, e, hr.left⟩⟩
end Go.Vl

namespace Go.Vl
open Go Go.Proofs
/-- What Format answers of any device, and the device behind it. -/
def fmX (s : DevS) : (List Int × Int) × DevS := if 578 ≤ s.ls.length then (((fmA (s.ls.length * 64) s).1, (fmtF (fst4 (s.ls.length * 64)) s).1), (fmtF (fst4 (s.ls.length * 64)) s).2) else (([0, 0, 0, 0, 0], 80), s)
end Go.Vl

namespace Go.Vl
open Go Go.Proofs
theorem st8_room {r v : Nat} {p e : Int} {s s2 : DevS} (h : st8 p v s = (e, s2)) (hw : WfD s) (hv : v < 18446744073709551616) (hr : Room (r + 1) s) : Room r s2 := by
  have h0 : Room r s := room_le hr (by omega)
  unfold st8 at h
  split at h
  · rw [← (Prod.mk.inj h).2]; exact h0
  · split at h
    · rw [← (Prod.mk.inj h).2]; exact h0
    · rw [← (Prod.mk.inj h).2]
      exact done_room (layS_wf hw (room_le hr (by omega)) hv) (onLine_room hr fun l => by simp [layL])
theorem sto_room {r : Nat} {p e : Int} {b : List Nat} {s s2 : DevS} (h : sto p b s = (e, s2)) (hw : WfD s) (hb : ∀ x ∈ b, x < 256) (hr : Room (r + b.length) s) : Room r s2 := by
  have h0 : Room r s := room_le hr (by omega)
  have h2 : (sto p b s).2 = s2 := by rw [h]
  rw [← h2]
  unfold sto
  split
  · exact h0
  · exact (storeF_room b.length rfl hw hb hr).1
theorem flushS_room {r p : Nat} {s : DevS} (h : Room r s) : Room r (flushS p s) := fun l hl => by
  unfold flushS onLine at hl
  split at hl
  · rcases List.mem_or_eq_of_mem_set hl with h1 | h1
    · exact h l h1
    · rw [h1]
      rename_i l0 e
      exact h l0 (List.mem_of_getElem? e)
  · exact h l hl
theorem fl1_room {r : Nat} {p e : Int} {s s2 : DevS} (h : fl1 p s = (e, s2)) (hw : WfD s) (hr : Room r s) : Room r s2 := by
  unfold fl1 at h
  split at h
  · rw [← (Prod.mk.inj h).2]; exact hr
  · rw [← (Prod.mk.inj h).2]; exact done_room (flushS_wf hw) (flushS_room hr)
/-- The contents of a line, by any number. -/
def ctI (p : Int) (s : DevS) : List (List Nat) := if p < 0 then [] else ctS p.toNat s
/-- What Load tells. -/
def ldB (p m : Int) (s : DevS) : List Nat := if rdy s.ls.length s.off p m = 0 then ((imgS s).drop p.toNat).take m.toNat else []
end Go.Vl

namespace Go.Vl
open Go Go.Proofs
theorem Op9W.left {A X : SP} {t : Op9} (h : Op9W A t) : Op9W (A * X) t := ⟨h.cap, h.rs.left, h.byt, h.v, h.kcap, h.krs.left, h.kb, h.q, h.n⟩
/-- What PersistLasts is handed. -/
structure RgC where
  ba : Option Addr
  bc : Nat
  bef : List Op9
  q : Int
  a : Option Addr
  c : Nat
  b : List Nat
  ha : Option Addr
  hc : Nat
  beh : List Op9
  ka : Option Addr
  kc : Nat
  kp : List Int
def RgC.cells (t : RgC) : List Value := [.slice t.ba t.bef.length t.bc, .int .i64 t.q, .slice t.a t.b.length t.c, .slice t.ha t.beh.length t.hc, .slice t.ka t.kp.length t.kc]
structure RgW (A : SP) (t : RgC) : Prop where
  hrb : Rs A t.ba (ocs t.bef)
  hwb : ∀ x ∈ t.bef, Op9W A x
  hrh : Rs A t.ha (ocs t.beh)
  hwh : ∀ x ∈ t.beh, Op9W A x
  hr : Rs A t.a (bys t.b)
  hb : ∀ x ∈ t.b, x < 256
  hcap : t.b.length ≤ t.c
  hrk : Rs A t.ka (ints t.kp)
end Go.Vl

namespace Go.Vl
open Go Go.Proofs
def xm (i : Nat) : Int := IntKind.u8.wrap (IntKind.i64.wrap ((BitVec.ofInt IntKind.i64.bits 165 ^^^ BitVec.ofInt IntKind.i64.bits (i : Int)).toNat))
/-- The marks behind a list of bytes. -/
def xmN (i : Nat) : Nat := (xm i).toNat
def spm (n : Nat) : List Nat := (List.range 80).map fun j => xmN (n + j)
def spi (n : Nat) : List Int := (List.range 9).map fun j => (7700 + ((n + j : Nat) : Int))
end Go.Vl

namespace Go.Vl
open Go Go.Proofs
theorem rangeP_room {r : Nat} {p m e : Int} {s s2 : DevS} (h : rangeP p m s = (e, s2)) (hw : WfD s) (hr : Room r s) : Room r s2 := by
  have h2 : (rangeP p m s).2 = s2 := by rw [h]
  rw [← h2]
  unfold rangeP
  split
  · exact hr
  · split
    · exact hr
    · split
      · exact hr
      · exact (flF_room _ _ _ hw hr).1
theorem st8_wf {v : Nat} {p e : Int} {s s2 : DevS} (h : st8 p v s = (e, s2)) (hw : WfD s) (hv : v < 18446744073709551616) (hr : Room 1 s) : WfD s2 := by
  unfold st8 at h
  split at h
  · rw [← (Prod.mk.inj h).2]; exact hw
  · split at h
    · rw [← (Prod.mk.inj h).2]; exact hw
    · rw [← (Prod.mk.inj h).2]; exact doneS_wf (layS_wf hw hr hv)
/-- How wide. -/
def wd (n : Int) : Nat := 2 ^ wi n 4
end Go.Vl

namespace Go.Vl
open Go Go.Proofs
theorem done_on {s : DevS} (h : doneE s = 0) : (doneS s).off = s.off := by
  unfold doneE at h
  unfold doneS
  cases e : s.arms with
  | nil => rfl
  | cons a ar =>
    rw [e] at h
    simp only at h ⊢
    split
    · rfl
    · rename_i c; rw [if_neg c] at h; exact absurd h (by decide)
theorem storeF_on : ∀ (m : Nat) {p : Nat} {b : List Nat} {s s2 : DevS}, b.length = m → storeF b.length p b s = (0, s2) → s2.off = s.off := by
  intro m
  induction m using Nat.strongRecOn with
  | _ m ih =>
    intro p b s s2 hm h
    by_cases h0 : b = []
    · subst h0; rw [storeF_nil] at h; simp only [Prod.mk.injEq, true_and] at h; rw [h]
    · have hpos : 0 < b.length := List.length_pos_iff.2 h0
      rw [storeF_step h0] at h
      by_cases hd : doneE (layS (p - p % 8) (nm (stW p b s)) s) = 0
      · rw [if_neg (by rw [hd]; decide)] at h
        have := ih (b.drop (8 - p % 8)).length (by rw [List.length_drop]; omega) rfl h
        rw [this, done_on hd, layS_off]
      · rw [if_pos hd] at h
        simp only [Prod.mk.injEq] at h
        exact absurd h.1 hd
theorem sto_on {p : Int} {b : List Nat} {s s2 : DevS} (h : sto p b s = (0, s2)) : s2.off = s.off := by
  unfold sto at h
  split at h
  · rename_i hr; simp only [Prod.mk.injEq] at h; exact absurd h.1 hr
  · exact storeF_on _ rfl h
def needN (l : List (Int × Int)) : Nat := (l.map fun x => 24 + up8 x.2.toNat).sum
theorem needN_cons (x : Int × Int) (l : List (Int × Int)) : needN (x :: l) = 24 + up8 x.2.toNat + needN l := by unfold needN; rw [List.map_cons, List.sum_cons]
theorem needF_ok : ∀ {l : List (Int × Int)} {s e r : Int}, (∀ x ∈ l, 1 ≤ x.2) → needF (lensX l) s = (r, e) → e = 0 → r = s + (needN l : Nat)
  | [], s, e, r, _, h, _ => by
    simp only [lensX, List.map_nil, needF, Prod.mk.injEq] at h
    rw [← h.1]; show s = s + ((0 : Nat) : Int); omega
  | x :: l, s, e, r, hx, h, he => by
    have h1 := hx x (by simp)
    obtain ⟨n, hn⟩ := Int.eq_ofNat_of_zero_le (show 0 ≤ x.2 by omega)
    have hc : lensX (x :: l) = (n : Int) :: lensX l := by unfold lensX; rw [List.map_cons, hn]
    rw [hc, needF_cons (by omega)] at h
    split at h
    · simp only [Prod.mk.injEq] at h; omega
    · rename_i hno
      have h2 := needF_ok (fun x hx' => hx x (List.mem_cons_of_mem _ hx')) h he
      rw [h2, needN_cons, hn, Int.toNat_natCast]
      have : (rndS n).1 = ((up8 n : Nat) : Int) := by unfold rndS at hno ⊢; split at hno <;> rename_i hh; exact absurd (.inl (by decide)) hno; rw [if_neg hh]
      omega
attribute [local irreducible] crk crL crc Sl pt ro Dev imgS recS
theorem Open_ok {A R : SP} {C : SP → SP} {d : Nat} {s : DevS} (hc : Ct A (Dev d s) R C := by repeat (first | with_reducible exact ct_here | apply ct_left)) {p q : Int} (hp : -9223372036854775808 ≤ p ∧ p ≤ 9223372036854775807 := by omega) (hq : -9223372036854775808 ≤ q ∧ q ≤ 9223372036854775807 := by omega) (hok : (64 ≤ p ∧ p % 64 = 0 ∧ 128 ≤ q ∧ q % 64 = 0 ∧ p ≤ (s.ls.length : Int) * 64 ∧ q ≤ (s.ls.length : Int) * 64 - p) := by omega) :
    Fn Try.prog 39 #[.pointer (some ⟨d, 0, none⟩), .int .i64 p, .int .i64 q] (A) (fun r B => ∃ b, r = .tuple #[.pointer (some ⟨b, 0, none⟩), .int .i64 0] ∧ B = A * pt b (cl [.pointer (some ⟨d, 0, none⟩), .int .i64 p, .int .i64 q] 109)) := by
  refine fn_enterW (args := [.pointer (some ⟨d, 0, none⟩), .int .i64 p, .int .i64 q]) Try.func39 rfl Try.ntmps39 (by simp) ?_; refine tc_have (fun _ _ h => ct_wf2 hc h) fun hw => ?_
  have htop := hw.top
  have hpos := hw.pos
  obtain ⟨rfl, hC⟩ := hc
  refine sr ?_; refine tla ?_; refine tla ?_; refine nq ?_; refine sr ?_; refine tlm ?_; refine tl_c rfl (o_call bd34 rfl (Size_c (s := s))) ?_; rintro _ _ ⟨rfl, rfl⟩; refine tla ?_; refine nq ?_; refine tc_seq ?_; refine tc_block ?_; refine sr ?_; refine tlm ?_; refine tv (o_eqi rfl rfl) ?_; refine tla ?_; refine nq ?_; refine tc_cond rfl (fun h => ?_) (fun h => ?_)
  · exfalso; first | omega | (simp at h; omega)
  · try simp only [lv1, lv2, lv3, lv4, lv5, lv6, Bool.not_true, Bool.not_false] at h
    refine tc_seq ?_; refine tc_cut (fun ρ BB => ∃ (bb : Bool), (bb = decide (¬ (64 ≤ p ∧ p % 64 = 0 ∧ 128 ≤ q ∧ q % 64 = 0 ∧ p ≤ (s.ls.length : Int) * 64 ∧ q ≤ (s.ls.length : Int) * 64 - p))) ∧ ρ 14 = .bool bb ∧ ρ 0 = .pointer (some ⟨d, 0, none⟩) ∧ ρ 1 = .int .i64 p ∧ ρ 2 = .int .i64 q ∧ BB = R * Dev d s) ?_ ?_
    · skip
      refine tc_reg ?_; refine tlm ?_; refine tv (o_lss rfl rfl) ?_; refine tlm ?_; refine tl_bool (d := 17) rfl (fun h => ?_) (fun h => ?_)
      · have g17 : (p < 64) := by first | exact of_decide_eq_true h | (have h2 := h; simp at h2; omega) | simpa using h
        refine tk ?_; refine tk ?_; refine tk ?_; refine tv (o_pick_t rfl (by conv => lhs; whnf)) ?_; refine tlm ?_; refine tk ?_; refine tk ?_; refine tv (o_pick_t rfl (by conv => lhs; whnf)) ?_; refine tlm ?_; refine tk ?_; refine tk ?_; refine tk ?_; refine tv (o_pick_t rfl (by conv => lhs; whnf)) ?_; refine tlm ?_; refine tk ?_; refine tk ?_; refine tk ?_; refine tv (o_pick_t rfl (by conv => lhs; whnf)) ?_; refine tlm ?_; refine tk ?_; refine tk ?_; refine tk ?_; refine tk ?_; refine tk ?_; refine tv (o_pick_t rfl (by conv => lhs; whnf)) ?_; refine tla ?_; refine tl_nil ?_; exact ⟨_, by first | exact (decide_eq_true (by omega)).symm | exact (decide_eq_false (by omega)).symm | (rw [decide_eq_decide]; omega), rfl, rfl, rfl, rfl, rfl⟩
      · have g17 : ¬ (p < 64) := by first | exact of_decide_eq_false h | (have h2 := h; simp at h2; omega) | simpa using h
        refine tlm ?_; refine tv (by first | exact o_remI rfl rfl (by omega) | exact o_rem rfl rfl (by omega)) ?_; refine tv (o_nei rfl rfl) ?_; refine tv (o_pick_f rfl (by conv => lhs; whnf)) ?_; refine tlm ?_; refine tl_bool (d := 22) rfl (fun h => ?_) (fun h => ?_)
        · have g22 : (p < 64 ∨ p % 64 ≠ 0) := by first | exact of_decide_eq_true h | (have h2 := h; simp at h2; omega) | simpa using h
          refine tk ?_; refine tk ?_; refine tv (o_pick_t rfl (by conv => lhs; whnf)) ?_; refine tlm ?_; refine tk ?_; refine tk ?_; refine tk ?_; refine tv (o_pick_t rfl (by conv => lhs; whnf)) ?_; refine tlm ?_; refine tk ?_; refine tk ?_; refine tk ?_; refine tv (o_pick_t rfl (by conv => lhs; whnf)) ?_; refine tlm ?_; refine tk ?_; refine tk ?_; refine tk ?_; refine tk ?_; refine tk ?_; refine tv (o_pick_t rfl (by conv => lhs; whnf)) ?_; refine tla ?_; refine tl_nil ?_; exact ⟨_, by first | exact (decide_eq_true (by omega)).symm | exact (decide_eq_false (by omega)).symm | (rw [decide_eq_decide]; omega), rfl, rfl, rfl, rfl, rfl⟩
        · have g22 : ¬ (p < 64 ∨ p % 64 ≠ 0) := by first | exact of_decide_eq_false h | (have h2 := h; simp at h2; omega) | simpa using h
          refine tlm ?_; refine tv (o_lss rfl rfl) ?_; refine tv (o_pick_f rfl (by conv => lhs; whnf)) ?_; refine tlm ?_; refine tl_bool (d := 26) rfl (fun h => ?_) (fun h => ?_)
          · have g26 : (p < 64 ∨ p % 64 ≠ 0 ∨ q < 128) := by first | exact of_decide_eq_true h | (have h2 := h; simp at h2; omega) | simpa using h
            refine tk ?_; refine tk ?_; refine tk ?_; refine tv (o_pick_t rfl (by conv => lhs; whnf)) ?_; refine tlm ?_; refine tk ?_; refine tk ?_; refine tk ?_; refine tv (o_pick_t rfl (by conv => lhs; whnf)) ?_; refine tlm ?_; refine tk ?_; refine tk ?_; refine tk ?_; refine tk ?_; refine tk ?_; refine tv (o_pick_t rfl (by conv => lhs; whnf)) ?_; refine tla ?_; refine tl_nil ?_; exact ⟨_, by first | exact (decide_eq_true (by omega)).symm | exact (decide_eq_false (by omega)).symm | (rw [decide_eq_decide]; omega), rfl, rfl, rfl, rfl, rfl⟩
          · have g26 : ¬ (p < 64 ∨ p % 64 ≠ 0 ∨ q < 128) := by first | exact of_decide_eq_false h | (have h2 := h; simp at h2; omega) | simpa using h
            refine tlm ?_; refine tv (by first | exact o_remI rfl rfl (by omega) | exact o_rem rfl rfl (by omega)) ?_; refine tv (o_nei rfl rfl) ?_; refine tv (o_pick_f rfl (by conv => lhs; whnf)) ?_; refine tlm ?_; refine tl_bool (d := 31) rfl (fun h => ?_) (fun h => ?_)
            · have g31 : (p < 64 ∨ p % 64 ≠ 0 ∨ q < 128 ∨ q % 64 ≠ 0) := by first | exact of_decide_eq_true h | (have h2 := h; simp at h2; omega) | simpa using h
              refine tk ?_; refine tk ?_; refine tk ?_; refine tv (o_pick_t rfl (by conv => lhs; whnf)) ?_; refine tlm ?_; refine tk ?_; refine tk ?_; refine tk ?_; refine tk ?_; refine tk ?_; refine tv (o_pick_t rfl (by conv => lhs; whnf)) ?_; refine tla ?_; refine tl_nil ?_; exact ⟨_, by first | exact (decide_eq_true (by omega)).symm | exact (decide_eq_false (by omega)).symm | (rw [decide_eq_decide]; omega), rfl, rfl, rfl, rfl, rfl⟩
            · have g31 : ¬ (p < 64 ∨ p % 64 ≠ 0 ∨ q < 128 ∨ q % 64 ≠ 0) := by first | exact of_decide_eq_false h | (have h2 := h; simp at h2; omega) | simpa using h
              refine tlm ?_; refine tlm ?_; refine tv (o_gtr rfl rfl) ?_; refine tv (o_pick_f rfl (by conv => lhs; whnf)) ?_; refine tlm ?_; refine tl_bool (d := 36) rfl (fun h => ?_) (fun h => ?_)
              · have g36 : (p < 64 ∨ p % 64 ≠ 0 ∨ q < 128 ∨ q % 64 ≠ 0 ∨ (s.ls.length : Int) * 64 < p) := by first | exact of_decide_eq_true h | (have h2 := h; simp at h2; omega) | simpa using h
                refine tk ?_; refine tk ?_; refine tk ?_; refine tk ?_; refine tk ?_; refine tv (o_pick_t rfl (by conv => lhs; whnf)) ?_; refine tla ?_; refine tl_nil ?_; exact ⟨_, by first | exact (decide_eq_true (by omega)).symm | exact (decide_eq_false (by omega)).symm | (rw [decide_eq_decide]; omega), rfl, rfl, rfl, rfl, rfl⟩
              · have g36 : ¬ (p < 64 ∨ p % 64 ≠ 0 ∨ q < 128 ∨ q % 64 ≠ 0 ∨ (s.ls.length : Int) * 64 < p) := by first | exact of_decide_eq_false h | (have h2 := h; simp at h2; omega) | simpa using h
                refine tlm ?_; refine tlm ?_; refine tlm ?_; refine tv (o_subI rfl rfl (by omega)) ?_; refine tv (o_gtr rfl rfl) ?_; refine tv (o_pick_f rfl (by conv => lhs; whnf)) ?_; refine tla ?_; refine tl_nil ?_; exact ⟨_, by first | exact (decide_eq_true (by omega)).symm | exact (decide_eq_false (by omega)).symm | (rw [decide_eq_decide]; omega), rfl, rfl, rfl, rfl, rfl⟩
    · intro ρ B hI
      obtain ⟨bb, hbb0, hE14, hE0, hE1, hE2, rfl⟩ := hI
      refine q_then_n ?_; refine tc_env (d := 14) hE14 ?_; refine tc_env (d := 0) hE0 ?_; refine tc_env (d := 1) hE1 ?_; refine tc_env (d := 2) hE2 ?_
      clear hE14 hE0 hE1 hE2
      refine tc_cond rfl (fun h => ?_) (fun h => ?_)
      · exfalso; rw [h] at hbb0; have := of_decide_eq_true hbb0.symm; omega
      · try simp only [lv1, lv2, lv3, lv4, lv5, lv6, Bool.not_true, Bool.not_false] at h
        refine tc_skip ?_; refine q_block_n (q_then_n ?_); refine sr ?_; refine tlm ?_; refine tlm ?_; refine tlm ?_; refine tv (o_bS (l := [_, _, _]) (pv_cons (by conv => lhs; whnf) (pv_cons (by conv => lhs; whnf) (pv_cons (by conv => lhs; whnf) pv_nil))) Try.underlying109 z109 (pl109 Try.underlying109) rfl) ?_; refine tl_x rfl (o_box rfl rfl) ?_; rintro _ _ ⟨b47, rfl, rfl⟩; refine tla ?_; refine tla ?_; refine nq ?_; refine tc_ret ?_; exact ⟨_, _, res2 rfl rfl rfl, fun _ _ h => h, b47, rfl, rfl⟩
theorem ready11_c {A R : SP} {C : SP → SP} {d : Nat} {s : DevS} (hc : Ct A (Dev d s) R C := by repeat (first | with_reducible exact ct_here | apply ct_left)) {bl at_ sz : Nat} (hl : Has R bl (cl (lcs11 d at_ sz) 109) := by (repeat (first | assumption | with_reducible exact has_here | with_reducible exact has_pt | apply has_left))) :
    Fn Try.prog 51 #[.pointer (some ⟨bl, 0, none⟩)] (A) (fun r B => r = .int .i64 (stE s) ∧ A = B) := by
  refine fn_enterW (args := [.pointer (some ⟨bl, 0, none⟩)]) Try.func51 rfl Try.ntmps51 (by simp) ?_
  obtain ⟨rfl, hC⟩ := hc
  refine sr ?_; refine tla ?_; refine nq ?_; refine tc_seq ?_; refine tc_block ?_; refine sr ?_; refine tlm ?_; refine tv (o_eqp Try.underlying64 rfl rfl) ?_; refine tlm ?_; refine tl_bool (d := 6) rfl (fun h => ?_) (fun h => ?_)
  · exfalso; simp at h
  · try simp only [lv1, lv2, lv3, lv4, lv5, lv6, Bool.not_true, Bool.not_false] at h
    refine tlm ?_; refine tv (o_nilCheck rfl) ?_; refine tv (o_fieldAddr (o := 0) Try.underlying109 rfl rfl sz26 rfl) ?_; refine tv (o_load p26 rfl (by repeat (first | assumption | apply has_left)) rfl) ?_; refine tv (o_eqp Try.underlying26 rfl rfl) ?_; refine tv (o_pick_f rfl (by conv => lhs; whnf)) ?_; refine tla ?_; refine nq ?_; refine tc_cond rfl (fun h => ?_) (fun h => ?_)
    · exfalso; simp at h
    · try simp only [lv1, lv2, lv3, lv4, lv5, lv6, Bool.not_true, Bool.not_false] at h
      refine sr ?_; refine tlm ?_; refine tv (o_nilCheck rfl) ?_; refine tv (o_fieldAddr (o := 0) Try.underlying109 rfl rfl sz26 rfl) ?_; refine tv (o_load p26 rfl (by repeat (first | assumption | apply has_left)) rfl) ?_; refine tl_c rfl (o_call bd47 rfl (Off_c (s := s))) ?_; rintro _ _ ⟨rfl, rfl⟩; refine tla ?_; refine nq ?_; refine tc_cond rfl (fun h => ?_) (fun h => ?_)
      · have ho : s.off = true := by first | exact h | simpa using h
        refine sr ?_; refine tla ?_; refine nq ?_; refine tc_ret ?_; refine q_block_r (q_then_r ?_); exact ⟨.int .i64 5, _, res1 rfl rfl, fun _ _ h => h, by unfold stE; rw [if_pos ho], rfl⟩
      · have ho : s.off = false := by first | exact h | simpa using h
        refine tc_skip ?_; refine q_block_n (q_then_n ?_); refine sr ?_; refine tla ?_; refine nq ?_; refine tc_ret ?_; exact ⟨.int .i64 0, _, res1 rfl rfl, fun _ _ h => h, by unfold stE; rw [if_neg (by rw [ho]; decide)], rfl⟩
theorem Clear_c {A R : SP} {C : SP → SP} {d : Nat} {s : DevS} (hc : Ct A (Dev d s) R C := by repeat (first | with_reducible exact ct_here | apply ct_left)) {bl at_ sz : Nat} (hl : Has R bl (cl (lcs11 d at_ sz) 109) := by (repeat (first | assumption | with_reducible exact has_here | with_reducible exact has_pt | apply has_left))) (hlw : LogW (s.ls.length * 64) at_ sz := by assumption) (hroom : Room 1 s := by assumption) :
    Fn Try.prog 46 #[.pointer (some ⟨bl, 0, none⟩)] (A) (fun r B => ∃ e s2, clearS at_ s = (e, s2) ∧ r = .int .i64 e ∧ B = C (Dev d s2)) := by
  refine fn_enterW (args := [.pointer (some ⟨bl, 0, none⟩)]) Try.func46 rfl Try.ntmps46 (by simp) ?_; refine tc_have (fun _ _ h => ct_wf2 hc h) fun hw => ?_
  have htop := hw.top
  have hpos := hw.pos
  obtain ⟨rfl, hC⟩ := hc
  have hAC : ∀ g w, sat g w (R * Dev d s) → sat g w (C (Dev d s)) := fun g w h => by rw [hC]; exact h
  have hlw9 := hlw
  obtain ⟨w1, w2, w3, w4, w5⟩ := hlw9
  refine sr ?_; refine tla ?_; refine nq ?_; refine tc_seq ?_; refine sr ?_; refine tlm ?_; refine tl_c rfl (o_call bd51 rfl (ready11_c (s := s) (hl := hl))) ?_; rintro _ _ ⟨rfl, rfl⟩; refine tla ?_; refine nq ?_; refine sr ?_; refine tlm ?_; refine tv (o_nei rfl rfl) ?_; refine nq ?_; refine tc_cond rfl (fun h => ?_) (fun h => ?_)
  · try simp only [lv1, lv2, lv3, lv4, lv5, lv6, Bool.not_true, Bool.not_false] at h
    refine sr ?_; refine tlm ?_; refine tla ?_; refine nq ?_; refine tc_ret ?_; refine q_then_r ?_
    have ho := stE_off h
    exact ⟨.int .i64 (stE s), C (Dev d s), res1 rfl rfl, hAC, stE s, s, by unfold clearS stE; rw [if_pos ho, if_pos ho], rfl, rfl⟩
  · have ho : s.off = false := stE_on (by simpa using h)
    refine tc_skip ?_; refine q_then_n ?_; refine tc_seq ?_; refine tc_regh (S := R) mo (by repeat (first | with_reducible exact dr_refl | apply dr_keep | apply dr_drop)) ?_
    show TH _ _ _ _ _ 10 #[ff,ff,ff,ff,ff,ff,ff,ff,ff,ff] _ _
    refine th_take (i := 0) (listed' := #[tt,ff,ff,ff,ff,ff,ff,ff,ff,ff]) rfl (by kernel_rfl) (by kernel_rfl) (by kernel_rfl) rfl rfl (o_move (by conv => lhs; whnf)) ?_; refine th_take (i := 1) (listed' := #[tt,tt,ff,ff,ff,ff,ff,ff,ff,ff]) rfl (by kernel_rfl) (by kernel_rfl) (by kernel_rfl) rfl rfl (o_nilCheck rfl) ?_; refine th_take (i := 2) (listed' := #[tt,tt,tt,ff,ff,ff,ff,ff,ff,ff]) rfl (by kernel_rfl) (by kernel_rfl) (by kernel_rfl) rfl rfl (o_fieldAddr (o := 0) Try.underlying109 rfl rfl sz26 rfl) ?_; refine th_take (i := 3) (listed' := #[tt,tt,tt,tt,ff,ff,ff,ff,ff,ff]) rfl (by kernel_rfl) (by kernel_rfl) (by kernel_rfl) rfl rfl (o_load p26 rfl (by repeat (first | assumption | apply has_left)) rfl) ?_; refine th_take (i := 4) (listed' := #[tt,tt,tt,tt,tt,ff,ff,ff,ff,ff]) rfl (by kernel_rfl) (by kernel_rfl) (by kernel_rfl) rfl rfl (o_move (by conv => lhs; whnf)) ?_; refine th_take (i := 5) (listed' := #[tt,tt,tt,tt,tt,tt,ff,ff,ff,ff]) rfl (by kernel_rfl) (by kernel_rfl) (by kernel_rfl) rfl rfl (o_nilCheck rfl) ?_; refine th_take (i := 6) (listed' := #[tt,tt,tt,tt,tt,tt,tt,ff,ff,ff]) rfl (by kernel_rfl) (by kernel_rfl) (by kernel_rfl) rfl rfl (o_fieldAddr (o := 1) Try.underlying109 rfl rfl sz3 rfl) ?_; refine th_take (i := 7) (listed' := #[tt,tt,tt,tt,tt,tt,tt,tt,ff,ff]) rfl (by kernel_rfl) (by kernel_rfl) (by kernel_rfl) rfl rfl (o_load p3 rfl (by repeat (first | assumption | apply has_left)) rfl) ?_; refine th_one (i := 8) (by kernel_rfl) ?_; refine oh_c (i := 8) (listed' := #[tt,tt,tt,tt,tt,tt,tt,tt,tt,ff]) rfl rfl rfl (o_call bd63 rfl (Publish_c (s := s) (p := (at_ : Nat)) (v := 0))) ?_
    rintro _ _ ⟨e17, s17, hs17, rfl, rfl⟩; refine ⟨by repeat (first | with_reducible exact dr_refl | apply dr_keep | apply dr_drop), ?_⟩; refine th_take (i := 9) (listed' := #[tt,tt,tt,tt,tt,tt,tt,tt,tt,tt]) rfl (by kernel_rfl) (by kernel_rfl) (by kernel_rfl) rfl rfl (o_assign (by conv => lhs; whnf)) ?_; refine th_done (by kernel_rfl) ?_; refine q_then_n ?_; refine tc_ret ?_; exact ⟨.int .i64 e17, C (Dev d s17), res1 rfl rfl, fun _ _ h => by rw [hC]; exact h, e17, s17, by unfold clearS; rw [if_neg (by rw [ho]; decide)]; exact hs17, rfl, rfl⟩
end Go.Vl

namespace Go.Vl
open Go Go.Proofs
def xcl (l : List (Int × Int)) : List Value := l.flatMap xcs
theorem xcl_len (l : List (Int × Int)) : (xcl l).length = l.length * 2 := fm_length (f := xcs) fun _ _ => rfl
theorem xcl_at {l : List (Int × Int)} {j : Nat} (h : j < l.length) : ((xcl l).drop (j * 2)).take 2 = xcs l[j] := fm_at (f := xcs) (fun _ _ => rfl) h
theorem lensX_succ {l : List (Int × Int)} {i : Nat} (h : i < l.length) : lensX (l.take (i + 1)) = lensX (l.take i) ++ [l[i].2] := by
  rw [List.take_succ_eq_append_getElem h]; unfold lensX; rw [List.map_append]; rfl
theorem lensX_len (l : List (Int × Int)) : (lensX l).length = l.length := by unfold lensX; rw [List.length_map]
theorem may_nat {n at_ sz : Nat} {x : Int × Int} (h : mayX n at_ sz x = true) : ∃ p m : Nat, x = ((p : Int), (m : Int)) ∧ 64 ≤ p ∧ 1 ≤ m ∧ p + m ≤ n ∧ (p + m ≤ at_ ∨ at_ + sz ≤ p) := by
  have h1 := of_decide_eq_true h
  obtain ⟨p, hp⟩ := Int.eq_ofNat_of_zero_le (show 0 ≤ x.1 by omega)
  obtain ⟨m, hm⟩ := Int.eq_ofNat_of_zero_le (show 0 ≤ x.2 by omega)
  exact ⟨p, m, by cases x; simp only at hp hm; rw [hp, hm], by omega, by omega, by omega, by omega⟩
theorem word_in {p : Nat} {s : DevS} (ho : s.off = false) (hp : p % 8 = 0) (hi : p + 8 ≤ s.ls.length * 64) : wordP (p : Nat) s = (nm (((imgS s).drop p).take 8), 0) := by
  unfold wordP loadP
  rw [if_neg (by rw [ho]; decide), if_neg (by omega), ho, if_neg (by rw [rdy_ok (by omega) (by omega) (by omega)]; decide), Int.toNat_natCast]
theorem nm8_lt {l : List Nat} (h : ∀ x ∈ l, x < 256) : nm (l.take 8) < 18446744073709551616 := by
  have h1 := nm_lt (l.take 8) fun x hx => h x (List.mem_of_mem_take hx)
  exact Nat.lt_of_lt_of_le h1 (by calc 256 ^ (l.take 8).length ≤ 256 ^ 8 := Nat.pow_le_pow_right (by decide) (List.length_take_le _ _)
    _ = 18446744073709551616 := by decide)
theorem putF_e {q p m : Nat} {l : List (Int × Int)} {s s2 : DevS} {e : Int} (h : sto (q : Nat) (recS p (((imgS s).drop p).take m)) s = (e, s2)) (he : e ≠ 0) : putF q (((p : Int), (m : Int)) :: l) s = (e, s2) := by
  show (if (sto (q : Nat) (recS p (((imgS s).drop p).take m)) s).1 ≠ 0 then sto (q : Nat) (recS p (((imgS s).drop p).take m)) s else _) = _
  rw [h, if_pos he]
theorem putF_o {q p m : Nat} {l : List (Int × Int)} {s s2 : DevS} (h : sto (q : Nat) (recS p (((imgS s).drop p).take m)) s = (0, s2)) : putF q (((p : Int), (m : Int)) :: l) s = putF (q + (24 + up8 m)) l s2 := by
  show (if (sto (q : Nat) (recS p (((imgS s).drop p).take m)) s).1 ≠ 0 then _ else putF (q + (24 + up8 m)) l (sto (q : Nat) (recS p (((imgS s).drop p).take m)) s).2) = _
  rw [h, if_neg (by simp)]
theorem needN_ge : ∀ (l : List (Int × Int)), l.length ≤ needN l
  | [] => Nat.zero_le _
  | x :: l => by have := needN_ge l; rw [needN_cons, List.length_cons]; omega
theorem all_drop {α : Type} {p : α → Bool} {l : List α} (h : l.all p = true) {i : Nat} (hi : i < l.length) : p l[i] = true := List.all_eq_true.1 h _ (List.getElem_mem hi)
theorem all_take {α : Type} {p : α → Bool} {l : List α} {i : Nat} (hi : i < l.length) (h : (l.take i).all p = true) (hp : p l[i] = true) : (l.take (i + 1)).all p = true := by
  rw [List.take_succ_eq_append_getElem hi, List.all_append, h]; simp [hp]
theorem all_not {α : Type} {p : α → Bool} {l : List α} {i : Nat} (hi : i < l.length) (hp : p l[i] = false) : l.all p = false := by
  rw [List.all_eq_false]; exact ⟨_, List.getElem_mem hi, by rw [hp]; decide⟩
attribute [local irreducible] crk crL crc Sl pt ro Dev imgS recS
set_option maxRecDepth 20000 in
set_option maxHeartbeats 2000000 in
theorem Write_c {A R : SP} {C : SP → SP} {d : Nat} {s : DevS} (hc : Ct A (Dev d s) R C := by repeat (first | with_reducible exact ct_here | apply ct_left)) {bl at_ sz : Nat} (hl : Has R bl (cl (lcs11 d at_ sz) 109) := by (repeat (first | assumption | with_reducible exact has_here | with_reducible exact has_pt | apply has_left))) (hlw : LogW (s.ls.length * 64) at_ sz := by assumption) {a : Option Addr} {c m : Nat} {xs : List (Int × Int)} (hr : Rs R a (xcl xs) := by repeat (first | assumption | with_reducible exact rs_sl | with_reducible exact rs_pt0 | exact rs_none | apply Rs.left)) (hm : xs.length = m := by first | assumption | rfl) (hX : ∀ x ∈ xs, XW x := by assumption) (hml : m ≤ 17592186044416 := by omega) (hroom : Room (sz + 1) s := by assumption) :
    Fn Try.prog 45 #[.pointer (some ⟨bl, 0, none⟩), .slice a m c] (A) (fun r B => ∃ e s2, writeS at_ sz xs s = (e, s2) ∧ r = .int .i64 e ∧ B = C (Dev d s2)) := by
  refine fn_enterW (args := [.pointer (some ⟨bl, 0, none⟩), .slice a m c]) Try.func45 rfl Try.ntmps45 (by simp) ?_; refine tc_have (fun _ _ h => ct_wf2 hc h) fun hw => ?_
  have htop := hw.top
  have hpos := hw.pos
  obtain ⟨rfl, hC⟩ := hc
  have hAC : ∀ g w, sat g w (R * Dev d s) → sat g w (C (Dev d s)) := fun g w h => by rw [hC]; exact h
  have hlw9 := hlw
  obtain ⟨w1, w2, w3, w4, w5⟩ := hlw9
  refine sr ?_; refine tla ?_; refine nq ?_; refine tc_seq ?_; refine sr ?_; refine tlm ?_; refine tl_c rfl (o_call bd51 rfl (ready11_c (s := s) (hl := hl))) ?_; rintro _ _ ⟨rfl, rfl⟩; refine tla ?_; refine nq ?_; refine sr ?_; refine tlm ?_; refine tv (o_nei rfl rfl) ?_; refine nq ?_; refine tc_cond rfl (fun h => ?_) (fun h => ?_)
  · try simp only [lv1, lv2, lv3, lv4, lv5, lv6, Bool.not_true, Bool.not_false] at h
    refine sr ?_; refine tlm ?_; refine tla ?_; refine nq ?_; refine tc_ret ?_; refine q_then_r ?_
    have ho := stE_off h
    exact ⟨.int .i64 (stE s), C (Dev d s), res1 rfl rfl, fun _ _ h => by rw [hC]; exact (Dr.sat (A' := R * Dev d s) (by repeat (first | with_reducible exact dr_refl | apply dr_keep | apply dr_drop))) _ _ h, stE s, s, by unfold writeS stE; rw [if_pos ho, if_pos ho], rfl, rfl⟩
  · have ho : s.off = false := stE_on (by simpa using h)
    have hw2 := word_in (p := at_) ho (by omega) (by omega)
    obtain ⟨v, hv⟩ : ∃ v, (wordP (at_ : Nat) s).1 = v := ⟨_, rfl⟩
    have hvl : v < 18446744073709551616 := by rw [← hv, hw2]; exact nm8_lt fun x hx => img_lt x (List.mem_of_mem_drop hx)
    refine tc_skip ?_; refine q_then_n ?_; refine tc_seq ?_; refine tc_seq ?_; refine tc_regq mo (by kernel_rfl) ?_; refine ql_v rfl (o_move (by conv => lhs; whnf)) ?_; refine ql_v rfl (o_nilCheck rfl) ?_; refine ql_v rfl (o_fieldAddr (o := 0) Try.underlying109 rfl rfl sz26 rfl) ?_; refine ql_v rfl (o_load p26 rfl (by repeat (first | assumption | apply has_left)) rfl) ?_; refine ql_v rfl (o_move (by conv => lhs; whnf)) ?_; refine ql_v rfl (o_nilCheck rfl) ?_; refine ql_v rfl (o_fieldAddr (o := 1) Try.underlying109 rfl rfl sz3 rfl) ?_; refine ql_v rfl (o_load p3 rfl (by repeat (first | assumption | apply has_left)) rfl) ?_; refine ql_c rfl (fun w => exec_call bd52 rfl) (Word_c (s := s) (p := (at_ : Nat))) ?_; refine ql_v rfl (o_move (by conv => lhs; whnf)) ?_; refine ql_v rfl (o_extract rfl rfl) ?_; refine ql_env (d := 36) (v := .int .u64 (v : Nat)) (by show Value.int .u64 ((wordP (at_ : Nat) s).1 : Nat) = _; rw [hv]) ?_; refine ql_v rfl (o_extract rfl rfl) ?_; refine ql_env (d := 37) (v := .int .i64 0) (by show Value.int .i64 (wordP (at_ : Nat) s).2 = _; rw [hw2]) ?_; refine ql_v rfl (o_assign (by conv => lhs; whnf)) ?_; refine ql_v rfl (o_assign (by conv => lhs; whnf)) ?_; refine ql_nil ?_; refine q_then_n ?_; refine sr ?_; refine tlm ?_; refine tv (o_nei rfl rfl) ?_; refine tlm ?_; refine tl_bool (d := 40) rfl (fun h => ?_) (fun h => ?_)
    · exfalso; simp at h
    · try simp only [lv1, lv2, lv3, lv4, lv5, lv6, Bool.not_true, Bool.not_false] at h
      refine tlm ?_; refine tv (o_nei rfl rfl) ?_; refine tv (o_pick_f rfl (by conv => lhs; whnf)) ?_; refine nq ?_; refine tc_cond rfl (fun h => ?_) (fun h => ?_)
      · have hv0 : v ≠ 0 := by first | (have h9 := of_decide_eq_true h; omega) | (simp at h; omega)
        refine sr ?_; refine tla ?_; refine nq ?_; refine tc_ret ?_; refine q_then_r ?_; exact ⟨.int .i64 (3), C (Dev d s), res1 rfl rfl, fun _ _ h => by rw [hC]; exact (Dr.sat (A' := R * Dev d s) (by repeat (first | with_reducible exact dr_refl | apply dr_keep | apply dr_drop))) _ _ h, 3, s, by unfold writeS; rw [if_neg (by rw [ho]; decide), if_pos (by rw [hv]; exact hv0)], rfl, rfl⟩
      · have hv0 : ¬ v ≠ 0 := by first | (have h9 := of_decide_eq_false h; omega) | (simp at h; omega)
        refine tc_skip ?_; refine q_then_n ?_; refine sr ?_; refine tla ?_; refine nq ?_; refine tc_seq ?_; refine sr ?_; refine tlm ?_; refine tv (o_len Try.underlying43 rfl) ?_; refine tlm ?_; refine nq ?_; refine tc_block ?_; refine tc_pre (A' := R * Dev d s * Sl 1 (.slice none 0 0) 0 (ints (lensX (xs.take 0)))) (fun _ _ h => sl_nil h) ?_; refine tc_loop (fun kk ρ BB => ∃ (i : Nat) (a8 : Option Addr) (c8 : Nat), (i ≤ m) ∧ ((xs.take i).all (mayX (s.ls.length * 64) at_ sz) = true) ∧ (i ≤ c8) ∧ kk = m - i ∧ ρ 8 = .slice a8 i c8 ∧ ρ 46 = .int .i64 (i : Nat) ∧ ρ 0 = .pointer (some ⟨bl, 0, none⟩) ∧ ρ 1 = .slice a m c ∧ ρ 44 = .slice a m c ∧ ρ 45 = .int .i64 (m : Nat) ∧ Dr BB (R * Dev d s * Sl 1 (.slice a8 i c8) i (ints (lensX (xs.take i))))) (m := m - (0)) ?_ ?_
        · exact ⟨0, none, 0, by omega, rfl, by omega, rfl, rfl, rfl, rfl, rfl, rfl, rfl, (by repeat (first | with_reducible exact dr_refl | apply dr_keep | apply dr_drop))⟩
        · intro k ρ B hI
          obtain ⟨i, a8, c8, hp0, hp1, hp2, hkk1, hE8, hE46, hE0, hE1, hE44, hE45, hBA⟩ := hI
          refine tc_pre hBA.sat ?_
          clear hBA
          refine tc_env (d := 8) hE8 ?_; refine tc_env (d := 46) hE46 ?_; refine tc_env (d := 0) hE0 ?_; refine tc_env (d := 1) hE1 ?_; refine tc_env (d := 44) hE44 ?_; refine tc_env (d := 45) hE45 ?_
          clear hE8 hE46 hE0 hE1 hE44 hE45
          refine sr ?_; refine tv (o_lss rfl rfl) ?_; refine nq ?_; refine tc_seq ?_; refine tc_cond rfl (fun h => ?_) (fun h => ?_)
          · have hi : i < xs.length := by first | omega | (simp at h; omega)
            obtain ⟨x, hx1⟩ : ∃ x, xs[i] = x := ⟨_, rfl⟩
            have hxw : XW x := hX x (hx1 ▸ List.getElem_mem hi)
            refine tc_skip ?_; refine q_then_n ?_; refine tc_seq ?_; refine tc_block ?_; refine sr ?_; refine tv (o_ixP (a := a) Try.underlying43 sz46 rfl rfl (by omega) (nn_rs (by repeat (first | with_reducible exact rs_sl | assumption | apply Rs.left)) (fun _ => by rw [xcl_len]; omega))) ?_; refine tv (o_ldPN (a := a) (xs := xcl xs) (vs := xcs x) a46 sz46 rfl (by repeat (first | with_reducible exact rs_sl | assumption | apply Rs.left)) (by rw [xcl_at (by omega), hx1]) rfl (by decide)) ?_; refine tl_x rfl (o_alloc z46 rfl) ?_; rintro _ _ ⟨b10, rfl, rfl⟩; refine tl_u rfl (o_stUN (l' := xcs x) rfl (by repeat (first | with_reducible exact upd_here | with_reducible exact upd_pt | apply upd_left)) sz46 rfl rfl rfl (by show 2 ≤ 2; decide) rfl) ?_; refine nq ?_; refine tc_seq ?_; refine sr ?_; refine tlm ?_; refine tv (o_loadN (vs := xcs x) a46 sz46 rfl (by repeat (first | with_reducible exact has_here | with_reducible exact has_pt | apply has_left)) (by show 2 ≤ 2; decide) rfl) ?_; refine tl_c rfl (o_call bd59 rfl (may11_c (s := s) (x := x) (hl := has_left (has_left (has_left hl))))) ?_; rintro _ _ ⟨rfl, rfl⟩; refine tv (o_not rfl) ?_; refine nq ?_; refine tc_cond rfl (fun h => ?_) (fun h => ?_)
            · have hmy : mayX (s.ls.length * 64) at_ sz x = false := by simpa using h
              refine sr ?_; refine tla ?_; refine nq ?_; refine tc_ret ?_; refine q_then_r (q_block_r (q_then_r (q_then_r (q_block_r (q_then_r ?_))))); exact ⟨.int .i64 (6), C (Dev d s), res1 rfl rfl, fun _ _ h => by rw [hC]; exact (Dr.sat (A' := R * Dev d s) (by repeat (first | with_reducible exact dr_refl | apply dr_keep | apply dr_drop))) _ _ h, 6, s, by unfold writeS; rw [if_neg (by rw [ho]; decide), if_neg (by rw [hv]; exact hv0), if_pos (all_not hi (by rw [hx1]; exact hmy))], rfl, rfl⟩
            · have hmy : mayX (s.ls.length * 64) at_ sz x = true := by simpa using h
              refine tc_skip ?_; refine q_then_n ?_; refine tc_reg ?_; refine tlm ?_; refine tv (o_fieldAddr (o := 1) Try.underlying46 rfl rfl sz3 rfl) ?_; refine tv (by first | exact o_load p3 rfl (by repeat (first | with_reducible exact has_here | with_reducible exact has_pt | apply has_left)) rfl | exact o_loadC p3 rfl (by assumption)) ?_; refine tl_x rfl (o_buildSlice1 Try.underlying103 sz3 z3 (by conv => lhs; whnf) rfl) ?_; rintro _ _ ⟨b57, rfl, rfl⟩; refine tl_x rfl (o_apB Try.underlying103 Try.underlying103 sz3 by3 z3 rfl (by decide) (by decide) rfl rfl rfl (by repeat (first | with_reducible exact ct_here | apply ct_left)) rfl (by first | exact bys_all _ | exact ints_all _ | exact wds_all _ | exact bos_all _ | rfl) (by first | omega | (simp only [bys_length, ints_length, wds_length, bos_length, List.length_append, List.length_take, List.length_drop, List.length_singleton]; omega)) (by first | exact bys_sn _ _ | exact ints_sn _ _ | exact wds_sn _ _ | exact bos_sn _ _ | exact (bys_append _ _).symm | rfl)) ?_; rintro _ _ ⟨a58, c58, rfl, hc58, rfl⟩; refine tla ?_; refine tl_nil ?_; refine q_block_n (q_then_n ?_); refine tc_reg ?_; refine tv (by first | exact o_addI rfl rfl (by omega) | exact o_add rfl rfl) ?_; refine tlm ?_; refine nq ?_
              exact ⟨_, by omega, i + 1, _, _, by omega, all_take hi hp1 (by rw [hx1]; exact hmy), hc58, rfl, rfl, rfl, rfl, rfl, rfl, rfl, by rw [lensX_succ hi, hx1]; repeat (first | with_reducible exact dr_refl | apply dr_keep | apply dr_drop)⟩
          · obtain rfl : i = m := by first | omega | (simp at h; omega)
            have htk : xs.take i = xs := List.take_of_length_le (by omega)
            rw [htk] at hp1
            refine tc_pre (A' := R * Dev d s * Sl 1 (.slice a8 i c8) i (ints (lensX xs))) (fun _ _ h => by rw [htk] at h; exact h) ?_
            obtain ⟨nd, en, hnd⟩ : ∃ nd en, needS (lensX xs) = (nd, en) := ⟨_, _, rfl⟩
            have hxl : ∀ x ∈ lensX xs, -9223372036854775808 ≤ x ∧ x ≤ 9223372036854775807 := fun x hx => by obtain ⟨y, hy, rfl⟩ := List.mem_map.1 hx; exact (hX y hy).l
            have hx1 : ∀ x ∈ xs, 1 ≤ x.2 := fun x hx => by obtain ⟨p, n, rfl, _, hn, _⟩ := may_nat (List.all_eq_true.1 hp1 x hx); show (1 : Int) ≤ (n : Int); omega
            have hnd2 : en = 0 → nd = (needN xs : Nat) := fun h9 => by have := needF_ok hx1 hnd h9; omega
            refine tc_exit ?_; refine q_then_e (q_then_e (q_block_x (q_then_n ?_))); refine sr ?_; refine tlm ?_; refine tl_c rfl (o_call bd60 rfl (Need_c (xs := lensX xs) (hr := rs_sl) (hm := (lensX_len xs).trans hm) (hx := hxl))) ?_; rintro _ _ ⟨rfl, rfl⟩; refine tlm ?_; refine tv (o_extract rfl rfl) ?_; refine tl_env (d := 63) (v := .int .i64 nd) (by show Value.int .i64 (needS (lensX xs)).1 = _; rw [hnd]) ?_; refine tv (o_extract rfl rfl) ?_; refine tl_env (d := 64) (v := .int .i64 en) (by show Value.int .i64 (needS (lensX xs)).2 = _; rw [hnd]) ?_; refine tla ?_; refine tla ?_; refine nq ?_; refine tc_seq ?_; refine tc_seq ?_; refine tc_cut (fun ρ BB => ∃ (bb : Bool), (bb = decide (en ≠ 0 ∨ ((sz - 64 : Nat) : Int) < nd)) ∧ ρ 75 = .bool bb ∧ ρ 0 = .pointer (some ⟨bl, 0, none⟩) ∧ ρ 1 = .slice a i c ∧ ρ 11 = .int .i64 nd ∧ Dr BB (R * Dev d s)) ?_ ?_
            · skip
              refine tc_reg ?_; refine tlm ?_; refine tv (o_nei rfl rfl) ?_; refine tlm ?_; refine tl_bool (d := 67) rfl (fun h => ?_) (fun h => ?_)
              · have g67 : (en ≠ 0) := by first | exact of_decide_eq_true h | (have h2 := h; simp at h2; omega) | simpa using h
                refine tk ?_; refine tk ?_; refine tk ?_; refine tk ?_; refine tk ?_; refine tk ?_; refine tk ?_; refine tv (o_pick_t rfl (by conv => lhs; whnf)) ?_; refine tl_nil ?_; exact ⟨_, by first | exact (decide_eq_true (by omega)).symm | exact (decide_eq_false (by omega)).symm | (rw [decide_eq_decide]; omega), rfl, rfl, rfl, rfl, (by repeat (first | with_reducible exact dr_refl | apply dr_keep | apply dr_drop))⟩
              · have g67 : ¬ (en ≠ 0) := by first | exact of_decide_eq_false h | (have h2 := h; simp at h2; omega) | simpa using h
                refine tlm ?_; refine tlm ?_; refine tv (o_nilCheck rfl) ?_; refine tv (o_fieldAddr (o := 2) Try.underlying109 rfl rfl sz3 rfl) ?_; refine tv (o_load p3 rfl (by repeat (first | assumption | apply has_left)) rfl) ?_; refine tv (o_subI rfl rfl (by omega)) ?_; refine tl_env (d := 73) (v := .int .i64 ((sz - 64 : Nat) : Int)) (by show Value.int .i64 ((sz : Int) - 64) = _; congr 1; omega) ?_; refine tv (o_gtr rfl rfl) ?_; refine tv (o_pick_f rfl (by conv => lhs; whnf)) ?_; refine tl_nil ?_; exact ⟨_, by first | exact (decide_eq_true (by omega)).symm | exact (decide_eq_false (by omega)).symm | (rw [decide_eq_decide]; omega), rfl, rfl, rfl, rfl, (by repeat (first | with_reducible exact dr_refl | apply dr_keep | apply dr_drop))⟩
            · intro ρ B hI
              obtain ⟨bb, hbb0, hE75, hE0, hE1, hE11, hBA⟩ := hI
              refine q_then_n ?_; refine tc_pre hBA.sat ?_
              clear hBA
              refine tc_env (d := 75) hE75 ?_; refine tc_env (d := 0) hE0 ?_; refine tc_env (d := 1) hE1 ?_; refine tc_env (d := 11) hE11 ?_
              clear hE75 hE0 hE1 hE11
              refine tc_cond rfl (fun h => ?_) (fun h => ?_)
              · have hful := of_decide_eq_true (show decide (en ≠ 0 ∨ ((sz - 64 : Nat) : Int) < nd) = true by rw [← hbb0]; exact h)
                refine sr ?_; refine tla ?_; refine nq ?_; refine tc_ret ?_; refine q_then_r ?_; exact ⟨.int .i64 (111), C (Dev d s), res1 rfl rfl, fun _ _ h => by rw [hC]; exact (Dr.sat (A' := R * Dev d s) (by repeat (first | with_reducible exact dr_refl | apply dr_keep | apply dr_drop))) _ _ h, 111, s, by unfold writeS; rw [if_neg (by rw [ho]; decide), if_neg (by rw [hv]; exact hv0), if_neg (by rw [hp1]; decide), hnd, if_pos hful], rfl, rfl⟩
              · have hful := of_decide_eq_false (show decide (en ≠ 0 ∨ ((sz - 64 : Nat) : Int) < nd) = false by rw [← hbb0]; exact h)
                obtain rfl : en = 0 := by omega
                obtain rfl := hnd2 rfl
                have hN : needN xs ≤ sz - 64 := by omega
                refine tc_skip ?_; refine q_then_n ?_; refine tc_seq ?_; refine sr ?_; refine tlm ?_; refine tv (o_eqi rfl rfl) ?_; refine nq ?_; refine tc_cond rfl (fun h => ?_) (fun h => ?_)
                · have hx0 : xs = [] := by have h9 := needN_ge xs; have h8 : needN xs = 0 := (by first | (have := of_decide_eq_true h; omega) | (simp at h; omega)); exact List.eq_nil_of_length_eq_zero (by omega)
                  refine sr ?_; refine tla ?_; refine nq ?_; refine tc_ret ?_; refine q_then_r ?_; exact ⟨.int .i64 (0), C (Dev d s), res1 rfl rfl, fun _ _ h => by rw [hC]; exact (Dr.sat (A' := R * Dev d s) (by repeat (first | with_reducible exact dr_refl | apply dr_keep | apply dr_drop))) _ _ h, 0, s, by unfold writeS; rw [if_neg (by rw [ho]; decide), if_neg (by rw [hv]; exact hv0), if_neg (by rw [hp1]; decide), hnd, if_neg hful, if_pos hx0], rfl, rfl⟩
                · have hx0 : xs ≠ [] := fun e => by subst e; first | exact of_decide_eq_false h rfl | exact h rfl | (simp [needN] at h)
                  have hxl0 : 0 < xs.length := List.length_pos_iff.2 hx0
                  have hN1 := needN_ge xs
                  refine tc_skip ?_; refine q_then_n ?_; refine sr ?_; refine tlm ?_; refine tv (o_nilCheck rfl) ?_; refine tv (o_fieldAddr (o := 1) Try.underlying109 rfl rfl sz3 rfl) ?_; refine tv (o_load p3 rfl (by repeat (first | assumption | apply has_left)) rfl) ?_; refine tv (by first | exact o_addI rfl rfl (by omega) | exact o_add rfl rfl) ?_; refine tl_env (d := 82) (v := .int .i64 ((at_ + 64 : Nat) : Int)) (by first | rfl | (show Value.int .i64 _ = _; congr 1; omega)) ?_; refine tla ?_; refine nq ?_; refine tc_seq ?_; refine sr ?_; refine tlm ?_; refine tv (o_len Try.underlying43 rfl) ?_; refine tlm ?_; refine nq ?_; refine tc_block ?_; refine tc_loop (fun kk ρ BB => ∃ (j : Nat) (q : Nat) (s1 : DevS), (j ≤ i) ∧ (putF (at_ + 64) xs s = putF q (xs.drop j) s1) ∧ (s1.off = false) ∧ (s1.ls.length = s.ls.length) ∧ (q + needN (xs.drop j) = at_ + 64 + needN xs) ∧ (Room (needN (xs.drop j) + 1) s1) ∧ kk = i - j ∧ ρ 13 = .int .i64 (q : Nat) ∧ ρ 85 = .int .i64 (j : Nat) ∧ ρ 0 = .pointer (some ⟨bl, 0, none⟩) ∧ ρ 1 = .slice a i c ∧ ρ 11 = .int .i64 (needN xs : Nat) ∧ ρ 83 = .slice a i c ∧ ρ 84 = .int .i64 (i : Nat) ∧ Dr BB (R * Dev d s1)) (m := i - (0)) ?_ ?_
                  · exact ⟨0, at_ + 64, s, by omega, rfl, ho, rfl, by rw [List.drop_zero], fun l hl => by have := hroom l hl; rw [List.drop_zero]; omega, rfl, rfl, rfl, rfl, rfl, rfl, rfl, rfl, (by repeat (first | with_reducible exact dr_refl | apply dr_keep | apply dr_drop))⟩
                  · intro k ρ B hI
                    obtain ⟨j, q, s1, hq0, hq1, hq2, hq3, hq4, hq5, hkk2, hE13, hE85, hE0, hE1, hE11, hE83, hE84, hBA⟩ := hI
                    refine tc_pre hBA.sat ?_
                    clear hBA
                    refine tc_env (d := 13) hE13 ?_; refine tc_env (d := 85) hE85 ?_; refine tc_env (d := 0) hE0 ?_; refine tc_env (d := 1) hE1 ?_; refine tc_env (d := 11) hE11 ?_; refine tc_env (d := 83) hE83 ?_; refine tc_env (d := 84) hE84 ?_
                    clear hE13 hE85 hE0 hE1 hE11 hE83 hE84
                    refine sr ?_; refine tv (o_lss rfl rfl) ?_; refine nq ?_; refine tc_seq ?_; refine tc_cond rfl (fun h => ?_) (fun h => ?_)
                    · have hj : j < xs.length := by first | omega | (simp at h; omega)
                      obtain ⟨x, hx1⟩ : ∃ x, xs[j] = x := ⟨_, rfl⟩
                      have hmx := all_drop hp1 hj
                      have hdr := List.drop_eq_getElem_cons hj
                      rw [hx1] at hmx hdr
                      obtain ⟨p, n, rfl, y1, y2, y3, y4⟩ := may_nat hmx
                      rw [hdr, needN_cons] at hq4 hq5
                      simp only [Int.toNat_natCast] at hq4 hq5
                      refine tc_have (fun _ _ h => ct_wf2 (by repeat (first | with_reducible exact ct_here | apply ct_left)) h) fun hw1 => ?_
                      have hil := imgS_len hw1
                      have hol : (((imgS s1).drop p).take n).length = n := by rw [List.length_take, List.length_drop, hil, hq3]; omega
                      have hrl : (recS p (((imgS s1).drop p).take n)).length = 24 + up8 n := by rw [recS_len, hol]
                      have hrb : ∀ x ∈ recS p (((imgS s1).drop p).take n), x < 256 := recS_b img_sub
                      have hu8 := up8_le n
                      refine tc_skip ?_; refine q_then_n ?_; refine tc_seq ?_; refine tc_block ?_; refine sr ?_; refine tv (o_ixP (a := a) Try.underlying43 sz46 rfl rfl (by omega) (nn_rs (by repeat (first | with_reducible exact rs_sl | assumption | apply Rs.left)) (fun _ => by rw [xcl_len]; omega))) ?_; refine tv (o_ldPN (a := a) (xs := xcl xs) (vs := xcs ((p : Int), (n : Int))) a46 sz46 rfl (by repeat (first | with_reducible exact rs_sl | assumption | apply Rs.left)) (by rw [xcl_at (by omega), hx1]) rfl (by decide)) ?_; refine tl_x rfl (o_alloc z46 rfl) ?_; rintro _ _ ⟨b15, rfl, rfl⟩; refine tl_u rfl (o_stUN (l' := xcs ((p : Int), (n : Int))) rfl (by repeat (first | with_reducible exact upd_here | with_reducible exact upd_pt | apply upd_left)) sz46 rfl rfl rfl (by show 2 ≤ 2; decide) rfl) ?_; refine nq ?_; refine tc_seq ?_; refine tc_regh (S := R * pt b15 (cl (xcs ((p : Int), (n : Int))) 46)) mo (by repeat (first | with_reducible exact dr_refl | apply dr_keep | apply dr_drop)) ?_
                      show TH _ _ _ _ _ 14 #[ff,ff,ff,ff,ff,ff,ff,ff,ff,ff,ff,ff,ff,ff] _ _
                      refine th_take (i := 0) (listed' := #[tt,ff,ff,ff,ff,ff,ff,ff,ff,ff,ff,ff,ff,ff]) rfl (by kernel_rfl) (by kernel_rfl) (by kernel_rfl) rfl rfl (o_move (by conv => lhs; whnf)) ?_; refine th_take (i := 1) (listed' := #[tt,tt,ff,ff,ff,ff,ff,ff,ff,ff,ff,ff,ff,ff]) rfl (by kernel_rfl) (by kernel_rfl) (by kernel_rfl) rfl rfl (o_nilCheck rfl) ?_; refine th_take (i := 2) (listed' := #[tt,tt,tt,ff,ff,ff,ff,ff,ff,ff,ff,ff,ff,ff]) rfl (by kernel_rfl) (by kernel_rfl) (by kernel_rfl) rfl rfl (o_fieldAddr (o := 0) Try.underlying109 rfl rfl sz26 rfl) ?_; refine th_take (i := 3) (listed' := #[tt,tt,tt,tt,ff,ff,ff,ff,ff,ff,ff,ff,ff,ff]) rfl (by kernel_rfl) (by kernel_rfl) (by kernel_rfl) rfl rfl (o_load p26 rfl (by repeat (first | assumption | apply has_left)) rfl) ?_; refine th_take (i := 4) (listed' := #[tt,tt,tt,tt,tt,ff,ff,ff,ff,ff,ff,ff,ff,ff]) rfl (by kernel_rfl) (by kernel_rfl) (by kernel_rfl) rfl rfl (o_fieldAddr (o := 0) Try.underlying46 rfl rfl sz3 rfl) ?_; refine th_take (i := 5) (listed' := #[tt,tt,tt,tt,tt,tt,ff,ff,ff,ff,ff,ff,ff,ff]) rfl (by kernel_rfl) (by kernel_rfl) (by kernel_rfl) rfl rfl (by first | exact o_load p3 rfl (by repeat (first | with_reducible exact has_here | with_reducible exact has_pt | apply has_left)) rfl | exact o_loadC p3 rfl (by assumption)) ?_; refine th_take (i := 6) (listed' := #[tt,tt,tt,tt,tt,tt,tt,ff,ff,ff,ff,ff,ff,ff]) rfl (by kernel_rfl) (by kernel_rfl) (by kernel_rfl) rfl rfl (o_fieldAddr (o := 1) Try.underlying46 rfl rfl sz3 rfl) ?_
                      refine th_take (i := 7) (listed' := #[tt,tt,tt,tt,tt,tt,tt,tt,ff,ff,ff,ff,ff,ff]) rfl (by kernel_rfl) (by kernel_rfl) (by kernel_rfl) rfl rfl (by first | exact o_load p3 rfl (by repeat (first | with_reducible exact has_here | with_reducible exact has_pt | apply has_left)) rfl | exact o_loadC p3 rfl (by assumption)) ?_; refine th_one (i := 8) (by kernel_rfl) ?_; refine oh_c (i := 8) (listed' := #[tt,tt,tt,tt,tt,tt,tt,tt,tt,ff,ff,ff,ff,ff]) rfl rfl rfl (o_call bd28 rfl (Load_c (s := s1) (p := p) (m := n))) ?_; rintro _ _ ⟨a98, c98, rfl, hc98, rfl⟩; refine ⟨by repeat (first | with_reducible exact dr_refl | apply dr_keep | apply dr_drop), ?_⟩; refine th_take (i := 9) (listed' := #[tt,tt,tt,tt,tt,tt,tt,tt,tt,tt,ff,ff,ff,ff]) rfl (by kernel_rfl) (by kernel_rfl) (by kernel_rfl) rfl rfl (o_move (by conv => lhs; whnf)) ?_; refine th_take (i := 10) (listed' := #[tt,tt,tt,tt,tt,tt,tt,tt,tt,tt,tt,ff,ff,ff]) rfl (by kernel_rfl) (by kernel_rfl) (by kernel_rfl) rfl rfl (o_extract rfl rfl) ?_; refine th_take (i := 11) (listed' := #[tt,tt,tt,tt,tt,tt,tt,tt,tt,tt,tt,tt,ff,ff]) rfl (by kernel_rfl) (by kernel_rfl) (by kernel_rfl) rfl rfl (o_extract rfl rfl) ?_; refine th_take (i := 12) (listed' := #[tt,tt,tt,tt,tt,tt,tt,tt,tt,tt,tt,tt,tt,ff]) rfl (by kernel_rfl) (by kernel_rfl) (by kernel_rfl) rfl rfl (o_assign (by conv => lhs; whnf)) ?_
                      refine th_take (i := 13) (listed' := #[tt,tt,tt,tt,tt,tt,tt,tt,tt,tt,tt,tt,tt,tt]) rfl (by kernel_rfl) (by kernel_rfl) (by kernel_rfl) rfl rfl (o_assign (by conv => lhs; whnf)) ?_; refine th_done (by kernel_rfl) ?_; refine q_then_n ?_; refine tc_seq ?_; refine sr ?_; refine tlm ?_; refine tv (o_nei rfl rfl) ?_; refine nq ?_; refine tc_cond rfl (fun h => ?_) (fun h => ?_)
                      · exfalso; simp at h
                      · try simp only [lv1, lv2, lv3, lv4, lv5, lv6, Bool.not_true, Bool.not_false] at h
                        refine tc_skip ?_; refine q_then_n ?_; refine sr ?_; refine tv (o_fieldAddr (o := 0) Try.underlying46 rfl rfl sz3 rfl) ?_; refine tv (by first | exact o_load p3 rfl (by repeat (first | with_reducible exact has_here | with_reducible exact has_pt | apply has_left)) rfl | exact o_loadC p3 rfl (by assumption)) ?_; refine tlm ?_; refine tl_c rfl (o_call bd61 rfl (record_c (p := p) (xs := ((imgS s1).drop p).take n) (hr := rs_sl) (hm := hol) (hb := img_sub))) ?_; rintro _ _ ⟨a107, c107, rfl, hc107, rfl⟩; refine tla ?_; refine nq ?_; refine tc_seq ?_; refine sr ?_; refine tlm ?_; refine tv (o_nilCheck rfl) ?_; refine tv (o_fieldAddr (o := 0) Try.underlying109 rfl rfl sz26 rfl) ?_; refine tv (o_load p26 rfl (by repeat (first | assumption | apply has_left)) rfl) ?_; refine tlm ?_; refine tlm ?_; refine tl_c rfl (o_call bd55 rfl (Store_c (s := s1) (p := (q : Nat)) (xs := recS p (((imgS s1).drop p).take n)) (hm := hrl) (hb := hrb) (hroom := fun _ l hl => by have := hq5 l hl; omega))) ?_
                        rintro _ _ ⟨e114, s114, hs114, rfl, rfl⟩; refine tla ?_; refine nq ?_; refine sr ?_; refine tlm ?_; refine tv (o_nei rfl rfl) ?_; refine nq ?_; refine tc_cond rfl (fun h => ?_) (fun h => ?_)
                        · have he0 : e114 ≠ 0 := by simpa using h
                          have hput : putF (at_ + 64) xs s = (e114, s114) := by rw [hq1, hdr]; exact putF_e hs114 he0
                          refine sr ?_; refine tlm ?_; refine tla ?_; refine nq ?_; refine tc_ret ?_; refine q_then_r (q_block_r (q_then_r (q_then_r (q_block_r (q_then_r ?_))))); exact ⟨.int .i64 (e114), C (Dev d s114), res1 rfl rfl, fun _ _ h => by rw [hC]; exact (Dr.sat (A' := R * Dev d s114) (by repeat (first | with_reducible exact dr_refl | apply dr_keep | apply dr_drop))) _ _ h, e114, s114, by unfold writeS; rw [if_neg (by rw [ho]; decide), if_neg (by rw [hv]; exact hv0), if_neg (by rw [hp1]; decide), hnd, if_neg hful, if_neg hx0, hput, if_pos he0], rfl, rfl⟩
                        · obtain rfl : e114 = 0 := by simpa using h
                          refine tc_skip ?_; refine q_then_n ?_; refine tc_reg ?_; refine tlm ?_; refine tlm ?_; refine tv (o_len Try.underlying22 rfl) ?_; refine tv (by first | exact o_addI rfl rfl (by omega) | exact o_add rfl rfl) ?_; refine tl_env (d := 121) (v := .int .i64 ((q + (24 + up8 n) : Nat) : Int)) (by first | rfl | (show Value.int .i64 _ = _; congr 1; omega)) ?_; refine tla ?_; refine tl_nil ?_; refine q_block_n (q_then_n ?_); refine tc_reg ?_; refine tv (by first | exact o_addI rfl rfl (by omega) | exact o_add rfl rfl) ?_; refine tlm ?_; refine nq ?_; exact ⟨_, by omega, j + 1, _, _, by omega, by rw [hq1, hdr]; exact putF_o hs114, by rw [sto_on hs114]; exact hq2, by have h9 := sto_len (q : Nat) (recS p (((imgS s1).drop p).take n)) s1; rw [hs114] at h9; exact h9.trans hq3, by omega, sto_room hs114 hw1 hrb (fun l hl => by have := hq5 l hl; rw [hrl]; omega), rfl, rfl, rfl, rfl, rfl, rfl, rfl, rfl, (by repeat (first | with_reducible exact dr_refl | apply dr_keep | apply dr_drop))⟩
                    · obtain rfl : j = i := by first | omega | (simp at h; omega)
                      have hput : putF (at_ + 64) xs s = (0, s1) := by rw [hq1, List.drop_eq_nil_of_le (by omega)]; rfl
                      refine tc_have (fun _ _ h => ct_wf2 (by repeat (first | with_reducible exact ct_here | apply ct_left)) h) fun hw1 => ?_
                      have hr1 : Room 1 s1 := fun l hl => by have := hq5 l hl; omega
                      refine tc_exit ?_; refine q_then_e (q_then_e (q_block_x (q_then_n ?_))); refine tc_seq ?_; refine tc_seq ?_; refine tc_regh (S := R) mo (by repeat (first | with_reducible exact dr_refl | apply dr_keep | apply dr_drop)) ?_
                      show TH _ _ _ _ _ 12 #[ff,ff,ff,ff,ff,ff,ff,ff,ff,ff,ff,ff] _ _
                      refine th_take (i := 0) (listed' := #[tt,ff,ff,ff,ff,ff,ff,ff,ff,ff,ff,ff]) rfl (by kernel_rfl) (by kernel_rfl) (by kernel_rfl) rfl rfl (o_move (by conv => lhs; whnf)) ?_; refine th_take (i := 1) (listed' := #[tt,tt,ff,ff,ff,ff,ff,ff,ff,ff,ff,ff]) rfl (by kernel_rfl) (by kernel_rfl) (by kernel_rfl) rfl rfl (o_nilCheck rfl) ?_; refine th_take (i := 2) (listed' := #[tt,tt,tt,ff,ff,ff,ff,ff,ff,ff,ff,ff]) rfl (by kernel_rfl) (by kernel_rfl) (by kernel_rfl) rfl rfl (o_fieldAddr (o := 0) Try.underlying109 rfl rfl sz26 rfl) ?_; refine th_take (i := 3) (listed' := #[tt,tt,tt,tt,ff,ff,ff,ff,ff,ff,ff,ff]) rfl (by kernel_rfl) (by kernel_rfl) (by kernel_rfl) rfl rfl (o_load p26 rfl (by repeat (first | assumption | apply has_left)) rfl) ?_; refine th_take (i := 4) (listed' := #[tt,tt,tt,tt,tt,ff,ff,ff,ff,ff,ff,ff]) rfl (by kernel_rfl) (by kernel_rfl) (by kernel_rfl) rfl rfl (o_move (by conv => lhs; whnf)) ?_; refine th_take (i := 5) (listed' := #[tt,tt,tt,tt,tt,tt,ff,ff,ff,ff,ff,ff]) rfl (by kernel_rfl) (by kernel_rfl) (by kernel_rfl) rfl rfl (o_nilCheck rfl) ?_; refine th_take (i := 6) (listed' := #[tt,tt,tt,tt,tt,tt,tt,ff,ff,ff,ff,ff]) rfl (by kernel_rfl) (by kernel_rfl) (by kernel_rfl) rfl rfl (o_fieldAddr (o := 1) Try.underlying109 rfl rfl sz3 rfl) ?_; refine th_take (i := 7) (listed' := #[tt,tt,tt,tt,tt,tt,tt,tt,ff,ff,ff,ff]) rfl (by kernel_rfl) (by kernel_rfl) (by kernel_rfl) rfl rfl (o_load p3 rfl (by repeat (first | assumption | apply has_left)) rfl) ?_
                      refine th_take (i := 8) (listed' := #[tt,tt,tt,tt,tt,tt,tt,tt,tt,ff,ff,ff]) rfl (by kernel_rfl) (by kernel_rfl) (by kernel_rfl) rfl rfl (by first | exact o_addI rfl rfl (by omega) | exact o_add rfl rfl) ?_; refine th_env (d := 131) (v := .int .i64 ((at_ + 64 : Nat) : Int)) (by first | rfl | (show Value.int .i64 _ = _; congr 1; omega)) ?_; refine th_take (i := 9) (listed' := #[tt,tt,tt,tt,tt,tt,tt,tt,tt,tt,ff,ff]) rfl (by kernel_rfl) (by kernel_rfl) (by kernel_rfl) rfl rfl (o_move (by conv => lhs; whnf)) ?_; refine th_one (i := 10) (by kernel_rfl) ?_; refine oh_c (i := 10) (listed' := #[tt,tt,tt,tt,tt,tt,tt,tt,tt,tt,tt,ff]) rfl rfl rfl (o_call bd62 rfl (Range_c (s := s1) (p := ((at_ + 64 : Nat) : Int)) (m := (needN xs : Nat)))) ?_; rintro _ _ ⟨e133, s133, hs133, rfl, rfl⟩; refine ⟨by repeat (first | with_reducible exact dr_refl | apply dr_keep | apply dr_drop), ?_⟩; refine th_take (i := 11) (listed' := #[tt,tt,tt,tt,tt,tt,tt,tt,tt,tt,tt,tt]) rfl (by kernel_rfl) (by kernel_rfl) (by kernel_rfl) rfl rfl (o_assign (by conv => lhs; whnf)) ?_; refine th_done (by kernel_rfl) ?_; refine q_then_n ?_; refine sr ?_; refine tlm ?_; refine tv (o_nei rfl rfl) ?_; refine tl_nil ?_
                      refine q_then_n ?_; refine tc_cond rfl (fun h => ?_) (fun h => ?_)
                      · have he1 : e133 ≠ 0 := by simpa using h
                        refine sr ?_; refine tlm ?_; refine tla ?_; refine nq ?_; refine tc_ret ?_; refine q_then_r ?_; exact ⟨.int .i64 (e133), C (Dev d s133), res1 rfl rfl, fun _ _ h => by rw [hC]; exact (Dr.sat (A' := R * Dev d s133) (by repeat (first | with_reducible exact dr_refl | apply dr_keep | apply dr_drop))) _ _ h, e133, s133, by unfold writeS; rw [if_neg (by rw [ho]; decide), if_neg (by rw [hv]; exact hv0), if_neg (by rw [hp1]; decide), hnd, if_neg hful, if_neg hx0, hput, if_neg (by simp)]; simp only []; rw [hs133, if_pos he1], rfl, rfl⟩
                      · obtain rfl : e133 = 0 := by simpa using h
                        have hr2 := rangeP_room hs133 hw1 hr1
                        refine tc_skip ?_; refine q_then_n ?_; refine tc_seq ?_; refine tc_regh (S := R) mo (by repeat (first | with_reducible exact dr_refl | apply dr_keep | apply dr_drop)) ?_
                        show TH _ _ _ _ _ 13 #[ff,ff,ff,ff,ff,ff,ff,ff,ff,ff,ff,ff,ff] _ _
                        refine th_take (i := 0) (listed' := #[tt,ff,ff,ff,ff,ff,ff,ff,ff,ff,ff,ff,ff]) rfl (by kernel_rfl) (by kernel_rfl) (by kernel_rfl) rfl rfl (o_move (by conv => lhs; whnf)) ?_; refine th_take (i := 1) (listed' := #[tt,tt,ff,ff,ff,ff,ff,ff,ff,ff,ff,ff,ff]) rfl (by kernel_rfl) (by kernel_rfl) (by kernel_rfl) rfl rfl (o_nilCheck rfl) ?_; refine th_take (i := 2) (listed' := #[tt,tt,tt,ff,ff,ff,ff,ff,ff,ff,ff,ff,ff]) rfl (by kernel_rfl) (by kernel_rfl) (by kernel_rfl) rfl rfl (o_fieldAddr (o := 0) Try.underlying109 rfl rfl sz26 rfl) ?_; refine th_take (i := 3) (listed' := #[tt,tt,tt,tt,ff,ff,ff,ff,ff,ff,ff,ff,ff]) rfl (by kernel_rfl) (by kernel_rfl) (by kernel_rfl) rfl rfl (o_load p26 rfl (by repeat (first | assumption | apply has_left)) rfl) ?_; refine th_take (i := 4) (listed' := #[tt,tt,tt,tt,tt,ff,ff,ff,ff,ff,ff,ff,ff]) rfl (by kernel_rfl) (by kernel_rfl) (by kernel_rfl) rfl rfl (o_move (by conv => lhs; whnf)) ?_; refine th_take (i := 5) (listed' := #[tt,tt,tt,tt,tt,tt,ff,ff,ff,ff,ff,ff,ff]) rfl (by kernel_rfl) (by kernel_rfl) (by kernel_rfl) rfl rfl (o_nilCheck rfl) ?_; refine th_take (i := 6) (listed' := #[tt,tt,tt,tt,tt,tt,tt,ff,ff,ff,ff,ff,ff]) rfl (by kernel_rfl) (by kernel_rfl) (by kernel_rfl) rfl rfl (o_fieldAddr (o := 1) Try.underlying109 rfl rfl sz3 rfl) ?_; refine th_take (i := 7) (listed' := #[tt,tt,tt,tt,tt,tt,tt,tt,ff,ff,ff,ff,ff]) rfl (by kernel_rfl) (by kernel_rfl) (by kernel_rfl) rfl rfl (o_load p3 rfl (by repeat (first | assumption | apply has_left)) rfl) ?_
                        refine th_take (i := 8) (listed' := #[tt,tt,tt,tt,tt,tt,tt,tt,tt,ff,ff,ff,ff]) rfl (by kernel_rfl) (by kernel_rfl) (by kernel_rfl) rfl rfl (o_move (by conv => lhs; whnf)) ?_; refine th_take (i := 9) (listed' := #[tt,tt,tt,tt,tt,tt,tt,tt,tt,tt,ff,ff,ff]) rfl (by kernel_rfl) (by kernel_rfl) (by kernel_rfl) rfl rfl (o_len Try.underlying43 rfl) ?_; refine th_take (i := 10) (listed' := #[tt,tt,tt,tt,tt,tt,tt,tt,tt,tt,tt,ff,ff]) rfl (by kernel_rfl) (by kernel_rfl) (by kernel_rfl) rfl rfl (by first | exact o_conv64 Try.underlying3 Try.underlying81 rfl | exact o_conv Try.underlying3 Try.underlying81 rfl) ?_; refine th_env (d := 147) (v := .int .u64 ((xs.length : Nat) : Int)) (by rw [hm]; exact congrArg (fun z : Nat => Value.int .u64 (z : Int)) (Nat.mod_eq_of_lt (by omega))) ?_; refine th_one (i := 11) (by kernel_rfl) ?_; refine oh_c (i := 11) (listed' := #[tt,tt,tt,tt,tt,tt,tt,tt,tt,tt,tt,tt,ff]) rfl rfl rfl (o_call bd63 rfl (Publish_c (s := s133) (p := (at_ : Nat)) (v := xs.length))) ?_; rintro _ _ ⟨e148, s148, hs148, rfl, rfl⟩; refine ⟨by repeat (first | with_reducible exact dr_refl | apply dr_keep | apply dr_drop), ?_⟩; refine th_take (i := 12) (listed' := #[tt,tt,tt,tt,tt,tt,tt,tt,tt,tt,tt,tt,tt]) rfl (by kernel_rfl) (by kernel_rfl) (by kernel_rfl) rfl rfl (o_assign (by conv => lhs; whnf)) ?_
                        refine th_done (by kernel_rfl) ?_; refine q_then_n ?_; refine tc_ret ?_; exact ⟨.int .i64 (e148), C (Dev d s148), res1 rfl rfl, fun _ _ h => by rw [hC]; exact (Dr.sat (A' := R * Dev d s148) (by repeat (first | with_reducible exact dr_refl | apply dr_keep | apply dr_drop))) _ _ h, e148, s148, by unfold writeS; rw [if_neg (by rw [ho]; decide), if_neg (by rw [hv]; exact hv0), if_neg (by rw [hp1]; decide), hnd, if_neg hful, if_neg hx0, hput, if_neg (by simp)]; simp only []; rw [hs133, if_neg (by simp)]; exact hs148, rfl, rfl⟩
end Go.Vl

namespace Go.Vl
open Go Go.Proofs
/-! ### Losses of power that may come yet -/
def phi (s : DevS) : Nat := s.arms.length + (if s.off = true then 1 else 0)
/-! ### Images, line by line -/
theorem chunk_at {q j : Nat} {I : List Nat} (h : j < 64) : (chunk q I)[j]? = I[q * 64 + j]? := by
  unfold chunk; rw [List.getElem?_take, if_pos h, List.getElem?_drop]
/-- Every content of every line is that of an image. -/
def Same (I : List Nat) (s : DevS) : Prop := Poss (fun q c => c = chunk q I) s
/-! ### A number is published -/
/-! ### Records are stored -/
def recsB (I : List Nat) (l : List (Int × Int)) : List Nat := l.flatMap fun x => recS x.1.toNat ((I.drop x.1.toNat).take x.2.toNat)
/-- Outside a range the images are alike. -/
def Out (a b : Nat) (I J : List Nat) : Prop := ∀ i, ¬ (a ≤ i ∧ i < b) → I[i]? = J[i]?
theorem Out.refl (a b : Nat) (I : List Nat) : Out a b I I := fun _ _ => rfl
theorem Out.trans {a b : Nat} {I J K : List Nat} (h1 : Out a b I J) (h2 : Out a b J K) : Out a b I K := fun i hi => (h1 i hi).trans (h2 i hi)
end Go.Vl

namespace Go.Vl
open Go Go.Proofs
attribute [local irreducible] crk crL crc Sl pt ro Dev imgS recS
theorem CloneBN_f {A : SP} {n c : Nat} :
    Fn Try.prog 69 #[.slice none n c] (A) (fun r B => r = .slice none 0 0 ∧ A = B) := by
  refine fn_enterW (args := [.slice none n c]) Try.func69 rfl Try.ntmps69 (by simp) ?_; refine sr ?_; refine tla ?_; refine nq ?_; refine tc_seq ?_; refine sr ?_; refine tlm ?_; refine tv (o_eqs Try.underlying22 rfl rfl) ?_; refine nq ?_; refine tc_cond rfl (fun h => ?_) (fun h => ?_)
  · try simp only [lv1, lv2, lv3, lv4, lv5, lv6, Bool.not_true, Bool.not_false] at h
    refine sr ?_; refine tla ?_; refine nq ?_; refine tc_ret ?_; refine q_then_r ?_; exact ⟨_, _, res1 rfl rfl, fun _ _ h => h, rfl, rfl⟩
  · (exfalso; first | (revert h; simp; done) | (simp at h; done) | (revert h; simp; omega) | (simp at h; omega) | omega)
theorem CloneBS_f {A : SP} {n c : Nat} {p : Addr} {xs : List Value} (hr : Rs A (some p) xs) (hl : xs.length = n * 1) (ho : xs.all oneC = true) (hs : n ≤ 5864062014800) :
    Fn Try.prog 69 #[.slice (some p) n c] (A) (fun r B => ∃ a2 c2, r = .slice a2 n c2 ∧ n ≤ c2 ∧ B = A * Sl 1 (.slice a2 n c2) n xs) := by
  refine fn_enterW (args := [.slice (some p) n c]) Try.func69 rfl Try.ntmps69 (by simp) ?_; refine sr ?_; refine tla ?_; refine nq ?_; refine tc_seq ?_; refine sr ?_; refine tlm ?_; refine tv (o_eqs Try.underlying22 rfl rfl) ?_; refine nq ?_; refine tc_cond rfl (fun h => ?_) (fun h => ?_)
  · exfalso; simp at h
  · try simp only [lv1, lv2, lv3, lv4, lv5, lv6, Bool.not_true, Bool.not_false] at h
    refine tc_skip ?_; refine q_then_n ?_; refine tc_seq ?_
    skip
    refine tc_reg ?_; refine tl_x rfl (o_buildSlice0 Try.underlying22 sz5 rfl) ?_; rintro _ _ ⟨b5, rfl, rfl⟩; refine tl_pre (A' := A * Sl 1 (.slice (some ⟨b5, 0, none⟩) 0 0) 0 []) (fun _ _ h => sl_new h (Nat.le_refl _) (by simp) (by simp)) ?_; refine tlm ?_; refine tl_x rfl (o_apR Try.underlying22 Try.underlying22 sz5 by5 z5 rfl (by decide) (by decide) rfl rfl (by repeat (first | with_reducible exact ct_here | apply ct_left)) (hr.left) hl ho (by omega) (List.nil_append _)) ?_; rintro _ _ ⟨a7, c7, rfl, hc7, rfl⟩; refine tla ?_; refine nq ?_; refine tc_ret ?_; exact ⟨.slice a7 (0 + n) c7, A * Sl 1 (.slice a7 (0 + n) c7) (0 + n) xs, res1 rfl rfl, fun _ _ h => h, a7, c7, by rw [Nat.zero_add], by rw [Nat.zero_add] at hc7; exact hc7, by rw [Nat.zero_add]⟩
theorem CloneB_c {A : SP} {a : Option Addr} {n c : Nat} {l : List Nat} (hr : Rs A a (bys l) := by repeat (first | assumption | with_reducible exact rs_sl | with_reducible exact rs_pt0 | exact rs_none | apply Rs.left)) (hm : l.length = n := by first | assumption | rfl) (hs : n ≤ 5864062014800 := by omega) :
    Fn Try.prog 69 #[.slice a n c] A (fun r B => ∃ a2 c2, r = .slice a2 n c2 ∧ n ≤ c2 ∧ B = A * Sl 1 (.slice a2 n c2) n (bys l)) := by
  have hl : (bys l).length = n * 1 := by rw [bys_length, hm, Nat.mul_one]
  cases a with
  | none =>
    intro g w hs2
    have hx : bys l = [] := by
      rcases hr.rd hs2 with h | ⟨b, o, e, _⟩
      · exact h
      · cases e
    have hn : n = 0 := by rw [hx] at hl; simp at hl; omega
    subst hn
    rw [hx]
    refine (CloneBN_f (n := 0) (c := c) g w hs2).mono ?_; rintro e w' ⟨v, B, rfl, ⟨rfl, rfl⟩, hB⟩; exact ⟨_, _, rfl, ⟨none, 0, rfl, Nat.le_refl _, rfl⟩, sl_nil hB⟩
  | some p => exact CloneBS_f hr hl (bys_all l) hs
theorem EqualB_c {A : SP} {a1 a2 : Option Addr} {c1 c2 n m : Nat} {xs ys : List Nat} (h1 : Rs A a1 (bys xs) := by repeat (first | assumption | with_reducible exact rs_sl | with_reducible exact rs_pt0 | exact rs_none | apply Rs.left)) (h2 : Rs A a2 (bys ys) := by repeat (first | assumption | with_reducible exact rs_sl | with_reducible exact rs_pt0 | exact rs_none | apply Rs.left)) (hx : xs.length = n := by first | assumption | rfl) (hy : ys.length = m := by first | assumption | rfl) (hn : n ≤ 4611686018427387904 := by omega) :
    Fn Try.prog 70 #[.slice a1 n c1, .slice a2 m c2] (A) (fun r B => r = .bool (decide (xs = ys)) ∧ A = B) := by
  refine fn_enterW (args := [.slice a1 n c1, .slice a2 m c2]) Try.func70 rfl Try.ntmps70 (by simp) ?_; refine sr ?_; refine tla ?_; refine nq ?_; refine tc_seq ?_; refine sr ?_; refine tlm ?_; refine tv (o_len Try.underlying22 rfl) ?_; refine tlm ?_; refine tv (o_len Try.underlying22 rfl) ?_; refine tv (o_nei rfl rfl) ?_; refine nq ?_; refine tc_cond rfl (fun h => ?_) (fun h => ?_)
  · try simp only [lv1, lv2, lv3, lv4, lv5, lv6, Bool.not_true, Bool.not_false] at h
    refine sr ?_; refine tla ?_; refine nq ?_; refine tc_ret ?_; refine q_then_r ?_
    have e : decide (xs = ys) = false := decide_eq_false fun e => by subst e; first | omega | (simp at h; omega)
    rw [e]
    exact ⟨.bool false, A, res1 rfl rfl, Dr.sat (by repeat (first | with_reducible exact dr_refl | apply dr_keep | apply dr_drop)), rfl, rfl⟩
  · obtain rfl : n = m := by first | omega | (simp at h; omega)
    refine tc_skip ?_; refine q_then_n ?_; refine tc_seq ?_; refine sr ?_; refine tlm ?_; refine tv (o_len Try.underlying22 rfl) ?_; refine tlm ?_; refine nq ?_; refine tc_block ?_; refine tc_loop (fun kk ρ BB => ∃ (i : Nat), (i ≤ n) ∧ (xs.take i = ys.take i) ∧ kk = n - i ∧ ρ 13 = .int .i64 (i : Nat) ∧ ρ 0 = .slice a1 n c1 ∧ ρ 1 = .slice a2 n c2 ∧ ρ 12 = .int .i64 (n : Nat) ∧ BB = A) (m := n - (0)) ?_ ?_
    · exact ⟨0, by omega, rfl, rfl, rfl, rfl, rfl, rfl, rfl⟩
    · intro k ρ B hI
      obtain ⟨i, hp0, hp1, hkk1, hE13, hE0, hE1, hE12, hBA⟩ := hI
      obtain rfl := hBA.symm
      refine tc_env (d := 13) hE13 ?_; refine tc_env (d := 0) hE0 ?_; refine tc_env (d := 1) hE1 ?_; refine tc_env (d := 12) hE12 ?_
      clear hE13 hE0 hE1 hE12
      refine sr ?_; refine tv (o_lss rfl rfl) ?_; refine nq ?_; refine tc_seq ?_; refine tc_cond rfl (fun h => ?_) (fun h => ?_)
      · have hi : i < xs.length := by first | omega | (simp at h; omega)
        have hi2 : i < ys.length := by omega
        refine tc_skip ?_; refine q_then_n ?_; refine tc_seq ?_; refine tc_block ?_; refine sr ?_; refine tlm ?_; refine tla ?_; refine nq ?_; refine tc_seq ?_; refine tc_regq mo (by kernel_rfl) ?_; refine ql_v rfl (o_move (by conv => lhs; whnf)) ?_; refine ql_v rfl (o_move (by conv => lhs; whnf)) ?_; refine ql_v rfl (o_ixP1 Try.underlying22 sz5 rfl rfl (by omega) (nn_rs h1 (by rw [bys_length]; omega))) ?_; refine ql_v rfl (o_ldP p5 rfl h1 (bys_at hi)) ?_; refine ql_v rfl (o_move (by conv => lhs; whnf)) ?_; refine ql_v rfl (o_move (by conv => lhs; whnf)) ?_; refine ql_v rfl (o_ixP1 Try.underlying22 sz5 rfl rfl (by omega) (nn_rs h2 (by rw [bys_length]; omega))) ?_; refine ql_v rfl (o_ldP p5 rfl h2 (bys_at hi2)) ?_; refine ql_v rfl (o_nei rfl rfl) ?_; refine ql_nil ?_; refine q_then_n ?_; refine tc_cond rfl (fun h => ?_) (fun h => ?_)
        · have hne : xs[i] ≠ ys[i] := fun e => by rw [e] at h; simp at h
          refine sr ?_; refine tla ?_; refine nq ?_; refine tc_ret ?_; refine q_block_r (q_then_r (q_then_r (q_block_r (q_then_r ?_))))
          have e : decide (xs = ys) = false := decide_eq_false fun e => by subst e; exact hne rfl
          rw [e]
          exact ⟨.bool false, A, res1 rfl rfl, Dr.sat (by repeat (first | with_reducible exact dr_refl | apply dr_keep | apply dr_drop)), rfl, rfl⟩
        · have heq : ((xs[i] : Nat) : Int) = ((ys[i] : Nat) : Int) := by first | omega | (simpa using h)
          refine tc_skip ?_; refine q_block_n (q_then_n ?_); refine tc_reg ?_; refine tv (by first | exact o_addI rfl rfl (by omega) | exact o_add rfl rfl) ?_; refine tlm ?_; refine nq ?_; exact ⟨_, by omega, i + 1, by omega, take_succ_eq hp1 (by omega) (by omega) (by omega), rfl, rfl, rfl, rfl, rfl, rfl⟩
      · try simp only [lv1, lv2, lv3, lv4, lv5, lv6, Bool.not_true, Bool.not_false] at h
        refine tc_exit ?_; refine q_then_e (q_then_e (q_block_x (q_then_n ?_))); refine sr ?_; refine tla ?_; refine nq ?_; refine tc_ret ?_
        have e : decide (xs = ys) = true := decide_eq_true (take_all hp1 (by omega) (by omega))
        rw [e]
        exact ⟨.bool true, A, res1 rfl rfl, Dr.sat (by repeat (first | with_reducible exact dr_refl | apply dr_keep | apply dr_drop)), rfl, rfl⟩
theorem field_c {A : SP} {a : Option Addr} {c m p w : Nat} {xs : List Nat} (q : Nat) (hq : q = p + w * 8 := by omega) (hr : Rs A a (bys xs) := by repeat (first | assumption | with_reducible exact rs_sl | with_reducible exact rs_pt0 | exact rs_none | apply Rs.left)) (hm : xs.length = m := by first | assumption | rfl) (hb : ∀ x ∈ xs, x < 256 := by assumption) (h8 : q + 8 ≤ m := by omega) (hl : m ≤ 1099511627776 := by omega) :
    Fn Try.prog 68 #[.slice a m c, .int .i64 (p : Nat), .int .i64 (w : Nat)] (A) (fun r B => r = .int .u64 ((nm ((xs.drop q).take 8) : Nat) : Int) ∧ A = B) := by
  refine fn_enterW (args := [.slice a m c, .int .i64 (p : Nat), .int .i64 (w : Nat)]) Try.func68 rfl Try.ntmps68 (by simp) ?_
  subst hq
  refine sr ?_; refine tla ?_; refine nq ?_; refine sr ?_; refine tlm ?_; refine tlm ?_; refine tlm ?_; refine tv (by first | exact o_mulI rfl rfl (by omega) | exact o_mul rfl rfl) ?_; refine tl_env (d := 13) (v := .int .i64 ((w * 8 : Nat) : Int)) (by first | rfl | (show Value.int .i64 (IntKind.i64.wrap ((w * 8 : Nat) : Int)) = _; rw [wr_i64 (by omega)])) ?_; refine tv (by first | exact o_addI rfl rfl (by omega) | exact o_add rfl rfl) ?_; refine tl_env (d := 14) (v := .int .i64 ((p + w * 8 : Nat) : Int)) (by first | rfl | (show Value.int .i64 _ = _; congr 1; omega)) ?_; refine tl_c rfl (o_call bd38 rfl (Take64_c (p := p + w * 8) (xs := xs))) ?_; rintro _ _ ⟨rfl, rfl⟩; refine tlm ?_; refine tv (o_extract rfl rfl) ?_; refine tv (o_extract rfl rfl) ?_; refine tla ?_; refine tla ?_; refine nq ?_; refine sr ?_; refine tlm ?_; refine tla ?_; refine nq ?_; refine tc_ret ?_; exact ⟨_, A, res1 rfl rfl, Dr.sat (by repeat (first | with_reducible exact dr_refl | apply dr_keep | apply dr_drop)), rfl, rfl⟩
def rdW (o : Option ((Nat × List Nat) × Nat)) : Nat := match o with | none => 0 | some x => x.1.1
def rdO (o : Option ((Nat × List Nat) × Nat)) : List Nat := match o with | none => [] | some x => x.1.2
def rkT (o : Option ((Nat × List Nat) × Nat)) : Nat := match o with | none => 0 | some x => x.2
theorem read_short {n at_ sz p : Nat} {room : List Nat} (h : room.length < p + 24) : readS n at_ sz room p = none := by unfold readS; rw [if_pos h]
theorem read_may {n at_ sz p : Nat} {room : List Nat} (h : mayX n at_ sz ((nm ((room.drop p).take 8) : Nat), (nm ((room.drop (p + 8)).take 8) : Nat)) = false) : readS n at_ sz room p = none := by
  unfold readS
  by_cases h0 : room.length < p + 24
  · rw [if_pos h0]
  · rw [if_neg h0, if_pos h]
theorem read_need {n at_ sz p : Nat} {room : List Nat} (h : room.length < p + (24 + up8 (nm ((room.drop (p + 8)).take 8)))) : readS n at_ sz room p = none := by
  unfold readS
  by_cases h0 : room.length < p + 24
  · rw [if_pos h0]
  · rw [if_neg h0]
    by_cases h1 : mayX n at_ sz ((nm ((room.drop p).take 8) : Nat), (nm ((room.drop (p + 8)).take 8) : Nat)) = false
    · rw [if_pos h1]
    · rw [if_neg h1, if_pos h]
theorem read_bad {n at_ sz p w m : Nat} {room : List Nat} (hw : nm ((room.drop p).take 8) = w) (hm : nm ((room.drop (p + 8)).take 8) = m) (h : recS w ((room.drop (p + 24)).take m) ≠ (room.drop p).take (24 + up8 m)) : readS n at_ sz room p = none := by
  subst hw hm; unfold readS
  by_cases h0 : room.length < p + 24
  · rw [if_pos h0]
  · rw [if_neg h0]
    by_cases h1 : mayX n at_ sz ((nm ((room.drop p).take 8) : Nat), (nm ((room.drop (p + 8)).take 8) : Nat)) = false
    · rw [if_pos h1]
    · rw [if_neg h1]
      by_cases h2 : room.length < p + (24 + up8 (nm ((room.drop (p + 8)).take 8)))
      · rw [if_pos h2]
      · rw [if_neg h2, if_pos h]
theorem read_good {n at_ sz p w m : Nat} {room : List Nat} (hw : nm ((room.drop p).take 8) = w) (hm : nm ((room.drop (p + 8)).take 8) = m) (h1 : ¬ room.length < p + 24) (h2 : mayX n at_ sz ((w : Int), (m : Int)) = true) (h3 : ¬ room.length < p + (24 + up8 m)) (h : recS w ((room.drop (p + 24)).take m) = (room.drop p).take (24 + up8 m)) : readS n at_ sz room p = some ((w, (room.drop (p + 24)).take m), 24 + up8 m) := by
  subst hw hm; unfold readS; rw [if_neg h1, if_neg (by rw [h2]; decide), if_neg h3, if_neg (by rw [h]; simp)]
theorem may_big {n at_ sz w m : Nat} (hn : n ≤ 4194304) (h : 4194304 < w ∨ 4194304 < m) : mayX n at_ sz ((w : Int), (m : Int)) = false := decide_eq_false (by show ¬ ((1 : Int) ≤ (m : Int) ∧ (64 : Int) ≤ (w : Int) ∧ (w : Int) + (m : Int) ≤ (n : Int) ∧ _); omega)
theorem may_zero1 {n at_ sz w m : Nat} (h : m < 1) : mayX n at_ sz ((w : Int), (m : Int)) = false := decide_eq_false (by show ¬ ((1 : Int) ≤ (m : Int) ∧ (64 : Int) ≤ (w : Int) ∧ (w : Int) + (m : Int) ≤ (n : Int) ∧ _); omega)
theorem need_one {m : Nat} (h : 1 ≤ m) (h2 : m ≤ 4194304) : needS [(m : Int)] = (((24 + up8 m : Nat) : Int), 0) := by
  have := up8_le m
  unfold needS
  rw [needF_cons h]
  have e : rndS m = (((up8 m : Nat) : Int), 0) := by unfold rndS; have : pad8 m < 8 := (by unfold pad8; omega); rw [if_neg (by omega)]
  rw [e, if_neg (by simp only [ne_eq, not_true, false_or]; omega)]
  show ((0 : Int) + 24 + ((up8 m : Nat) : Int), (0 : Int)) = _
  congr 1
theorem need_zero : needS [((0 : Nat) : Int)] = (0, 2) := needF_bad (by decide)
set_option maxRecDepth 20000 in
set_option maxHeartbeats 2000000 in
theorem read_c {A R : SP} {C : SP → SP} {d : Nat} {s : DevS} (hc : Ct A (Dev d s) R C := by repeat (first | with_reducible exact ct_here | apply ct_left)) {bl at_ sz : Nat} (hl : Has R bl (cl (lcs11 d at_ sz) 109) := by (repeat (first | assumption | with_reducible exact has_here | with_reducible exact has_pt | apply has_left))) (hlw : LogW (s.ls.length * 64) at_ sz := by assumption) {a : Option Addr} {c rm p : Nat} {room : List Nat} (hr : Rs R a (bys room) := by repeat (first | assumption | with_reducible exact rs_sl | with_reducible exact rs_pt0 | exact rs_none | apply Rs.left)) (hm : room.length = rm := by first | assumption | rfl) (hmc : rm ≤ c := by omega) (hb : ∀ x ∈ room, x < 256 := by assumption) (hrm : rm ≤ 4194304 := by omega) (hp : p ≤ rm := by omega) :
    Fn Try.prog 53 #[.pointer (some ⟨bl, 0, none⟩), .slice a rm c, .int .i64 (p : Nat)] (A) (fun r B => ∃ a2 c2, r = .tuple #[.agg #[.int .i64 ((rdW (readS (s.ls.length * 64) at_ sz room p) : Nat) : Int), .slice a2 (rdO (readS (s.ls.length * 64) at_ sz room p)).length c2], .int .i64 ((rkT (readS (s.ls.length * 64) at_ sz room p) : Nat) : Int), .bool (readS (s.ls.length * 64) at_ sz room p).isSome] ∧ (rdO (readS (s.ls.length * 64) at_ sz room p)).length ≤ c2 ∧ B = C (Dev d s) * Sl 1 (.slice a2 (rdO (readS (s.ls.length * 64) at_ sz room p)).length c2) (rdO (readS (s.ls.length * 64) at_ sz room p)).length (bys (rdO (readS (s.ls.length * 64) at_ sz room p)))) := by
  refine fn_enterW (args := [.pointer (some ⟨bl, 0, none⟩), .slice a rm c, .int .i64 (p : Nat)]) Try.func53 rfl Try.ntmps53 (by simp) ?_; refine tc_have (fun _ _ h => ct_wf2 hc h) fun hw => ?_
  have htop := hw.top
  have hpos := hw.pos
  obtain ⟨rfl, hC⟩ := hc
  rw [hC]
  have hlw9 := hlw
  obtain ⟨w1, w2, w3, w4, w5⟩ := hlw9
  obtain ⟨w, hwq⟩ : ∃ w, (nm ((room.drop p).take 8)) = w := ⟨_, rfl⟩
  obtain ⟨m, hmq⟩ : ∃ m, (nm ((room.drop (p + 8)).take 8)) = m := ⟨_, rfl⟩
  have hw8 : w < 18446744073709551616 := hwq ▸ nm8_lt fun x hx => hb x (List.mem_of_mem_drop hx)
  have hm8 : m < 18446744073709551616 := hmq ▸ nm8_lt fun x hx => hb x (List.mem_of_mem_drop hx)
  refine sr ?_; refine tl_x rfl (o_alloc z111 rfl) ?_; rintro _ _ ⟨b6, rfl, rfl⟩; refine tla ?_; refine tla ?_; refine nq ?_; refine tc_seq ?_; refine sr ?_; refine tlm ?_; refine tv (o_len Try.underlying22 rfl) ?_; refine tlm ?_; refine tv (o_subI rfl rfl (by omega)) ?_; refine tv (o_lss rfl rfl) ?_; refine nq ?_; refine tc_cond rfl (fun h => ?_) (fun h => ?_)
  · have hsh : room.length < p + 24 := by first | omega | (simp at h; omega)
    refine sr ?_; refine tv (o_bS (l := [_, _]) pv_nil Try.underlying111 z111 (pl111 Try.underlying111) rfl) ?_; refine tl_u rfl (o_stUN rfl (by repeat (first | with_reducible exact upd_here | with_reducible exact upd_pt | apply upd_left)) sz111 rfl rfl rfl (by first | decide | simp | omega) rfl) ?_; refine tla ?_; refine tla ?_; refine nq ?_; refine tc_ret ?_; refine q_then_r ?_
    have e0 : (readS (s.ls.length * 64) at_ sz room p) = none := by exact read_short hsh
    rw [e0]
    exact ⟨.tuple #[.agg #[.int .i64 0, .slice none 0 0], .int .i64 0, .bool false], R * Dev d s * Sl 1 (.slice none 0 0) 0 [], resA3 rfl (rv_cell a111 sz111 rfl (by repeat (first | with_reducible exact has_here | with_reducible exact has_pt | apply has_left)) (by show 2 ≤ 2; decide) rfl) (rv_tmp rfl) (rv_tmp rfl), fun _ _ h => sl_nil (Dr.sat (by repeat (first | with_reducible exact dr_refl | apply dr_keep | apply dr_drop)) _ _ h), none, 0, rfl, Nat.le_refl _, rfl⟩
  · have hsh : ¬ room.length < p + 24 := by first | omega | (simp at h; omega)
    refine tc_skip ?_; refine q_then_n ?_; refine sr ?_; refine tlm ?_; refine tlm ?_; refine tl_c rfl (o_call bd68 rfl (field_c (q := p) (w := 0) (xs := room))) ?_; rintro _ _ ⟨rfl, rfl⟩; refine tl_env (d := 23) (v := .int .u64 (w : Nat)) (by show Value.int .u64 (((nm ((room.drop p).take 8)) : Nat) : Int) = _; rw [hwq]) ?_; refine tlm ?_; refine tlm ?_; refine tl_c rfl (o_call bd68 rfl (field_c (q := p + 8) (w := 1) (xs := room))) ?_; rintro _ _ ⟨rfl, rfl⟩; refine tl_env (d := 26) (v := .int .u64 (m : Nat)) (by show Value.int .u64 (((nm ((room.drop (p + 8)).take 8)) : Nat) : Int) = _; rw [hmq]) ?_; refine tla ?_; refine tla ?_; refine nq ?_; refine tc_seq ?_; refine tc_seq ?_; refine tc_cut (fun ρ BB => ∃ (bb : Bool), (bb = decide (4194304 < w ∨ 4194304 < m)) ∧ ρ 32 = .bool bb ∧ ρ 0 = .pointer (some ⟨bl, 0, none⟩) ∧ ρ 1 = .slice a rm c ∧ ρ 2 = .int .i64 (p : Nat) ∧ ρ 6 = .pointer (some ⟨b6, 0, none⟩) ∧ ρ 9 = .int .u64 (w : Nat) ∧ ρ 10 = .int .u64 (m : Nat) ∧ BB = R * Dev d s * pt b6 (cl [.int .i64 0, .slice none 0 0] 111)) ?_ ?_
    · skip
      refine tc_reg ?_; refine tlm ?_; refine tv (o_gtr rfl rfl) ?_; refine tlm ?_; refine tl_bool (d := 29) rfl (fun h => ?_) (fun h => ?_)
      · have g29 : (4194304 < w) := by first | exact of_decide_eq_true h | (have h2 := h; simp at h2; omega) | simpa using h
        refine tk ?_; refine tk ?_; refine tv (o_pick_t rfl (by conv => lhs; whnf)) ?_; refine tl_nil ?_; exact ⟨_, by first | exact (decide_eq_true (by omega)).symm | exact (decide_eq_false (by omega)).symm | (rw [decide_eq_decide]; omega), rfl, rfl, rfl, rfl, rfl, rfl, rfl, rfl⟩
      · have g29 : ¬ (4194304 < w) := by first | exact of_decide_eq_false h | (have h2 := h; simp at h2; omega) | simpa using h
        refine tlm ?_; refine tv (o_gtr rfl rfl) ?_; refine tv (o_pick_f rfl (by conv => lhs; whnf)) ?_; refine tl_nil ?_; exact ⟨_, by first | exact (decide_eq_true (by omega)).symm | exact (decide_eq_false (by omega)).symm | (rw [decide_eq_decide]; omega), rfl, rfl, rfl, rfl, rfl, rfl, rfl, rfl⟩
    · intro ρ B hI
      obtain ⟨bb, hbb0, hE32, hE0, hE1, hE2, hE6, hE9, hE10, rfl⟩ := hI
      refine q_then_n ?_; refine tc_env (d := 32) hE32 ?_; refine tc_env (d := 0) hE0 ?_; refine tc_env (d := 1) hE1 ?_; refine tc_env (d := 2) hE2 ?_; refine tc_env (d := 6) hE6 ?_; refine tc_env (d := 9) hE9 ?_; refine tc_env (d := 10) hE10 ?_
      clear hE32 hE0 hE1 hE2 hE6 hE9 hE10
      refine tc_cond rfl (fun h => ?_) (fun h => ?_)
      · have hbig := of_decide_eq_true (show decide (4194304 < w ∨ 4194304 < m) = true by rw [← hbb0]; exact h)
        refine sr ?_; refine tv (o_bS (l := [_, _]) pv_nil Try.underlying111 z111 (pl111 Try.underlying111) rfl) ?_; refine tl_u rfl (o_stUN rfl (by repeat (first | with_reducible exact upd_here | with_reducible exact upd_pt | apply upd_left)) sz111 rfl rfl rfl (by first | decide | simp | omega) rfl) ?_; refine tla ?_; refine tla ?_; refine nq ?_; refine tc_ret ?_; refine q_then_r ?_
        have e0 : (readS (s.ls.length * 64) at_ sz room p) = none := by exact read_may (by rw [hwq, hmq]; exact may_big (by omega) hbig)
        rw [e0]
        exact ⟨.tuple #[.agg #[.int .i64 0, .slice none 0 0], .int .i64 0, .bool false], R * Dev d s * Sl 1 (.slice none 0 0) 0 [], resA3 rfl (rv_cell a111 sz111 rfl (by repeat (first | with_reducible exact has_here | with_reducible exact has_pt | apply has_left)) (by show 2 ≤ 2; decide) rfl) (rv_tmp rfl) (rv_tmp rfl), fun _ _ h => sl_nil (Dr.sat (by repeat (first | with_reducible exact dr_refl | apply dr_keep | apply dr_drop)) _ _ h), none, 0, rfl, Nat.le_refl _, rfl⟩
      · have hbig := of_decide_eq_false (show decide (4194304 < w ∨ 4194304 < m) = false by rw [← hbb0]; exact h)
        refine tc_skip ?_; refine q_then_n ?_; refine sr ?_; refine tlm ?_; refine tv (o_conv Try.underlying81 Try.underlying3 rfl) ?_; refine tl_env (d := 35) (v := .int .i64 (w : Nat)) (by show Value.int .i64 (IntKind.i64.wrap _) = _; rw [wr_i64 (by omega)]) ?_; refine tlm ?_; refine tv (o_conv Try.underlying81 Try.underlying3 rfl) ?_; refine tl_env (d := 37) (v := .int .i64 (m : Nat)) (by show Value.int .i64 (IntKind.i64.wrap _) = _; rw [wr_i64 (by omega)]) ?_; refine tv (o_bS (l := [_, _]) (pv_cons (by conv => lhs; whnf) (pv_cons (by conv => lhs; whnf) pv_nil)) Try.underlying46 z46 (pl46 Try.underlying46) rfl) ?_; refine tl_x rfl (o_alloc z46 rfl) ?_; rintro _ _ ⟨b11, rfl, rfl⟩; refine tl_u rfl (o_stUN (l' := xcs ((w : Int), (m : Int))) rfl (by repeat (first | with_reducible exact upd_here | with_reducible exact upd_pt | apply upd_left)) sz46 rfl rfl rfl (by show 2 ≤ 2; decide) rfl) ?_; refine nq ?_; refine tc_seq ?_
        obtain ⟨nd, en, hnd⟩ : ∃ nd en, needS [(m : Int)] = (nd, en) := ⟨_, _, rfl⟩
        refine tc_reg ?_; refine tv (o_fieldAddr (o := 1) Try.underlying46 rfl rfl sz3 rfl) ?_; refine tv (by first | exact o_load p3 rfl (by repeat (first | with_reducible exact has_here | with_reducible exact has_pt | apply has_left)) rfl | exact o_loadC p3 rfl (by assumption)) ?_; refine tl_x rfl (o_buildSlice1 Try.underlying103 sz3 z3 (by conv => lhs; whnf) rfl) ?_; rintro _ _ ⟨b42, rfl, rfl⟩; refine tl_c rfl (o_call bd60 rfl (Need_c (xs := [(m : Int)]) (hr := show Rs _ _ [Value.int .i64 (m : Int)] from rs_pt rfl) (hx := by intro x hx; simp at hx; omega))) ?_; rintro _ _ ⟨rfl, rfl⟩; refine tlm ?_; refine tv (o_extract rfl rfl) ?_; refine tl_env (d := 44) (v := .int .i64 nd) (by show Value.int .i64 (needS [(m : Int)]).1 = _; rw [hnd]) ?_; refine tv (o_extract rfl rfl) ?_; refine tl_env (d := 45) (v := .int .i64 en) (by show Value.int .i64 (needS [(m : Int)]).2 = _; rw [hnd]) ?_; refine tla ?_; refine tla ?_; refine nq ?_; refine tc_seq ?_; refine tc_seq ?_; refine tc_cut (fun ρ BB => ∃ (bb : Bool), (bb = decide (mayX (s.ls.length * 64) at_ sz ((w : Int), (m : Int)) = false ∨ room.length < p + (24 + up8 m))) ∧ ρ 61 = .bool bb ∧ ρ 1 = .slice a rm c ∧ ρ 2 = .int .i64 (p : Nat) ∧ ρ 6 = .pointer (some ⟨b6, 0, none⟩) ∧ ρ 11 = .pointer (some ⟨b11, 0, none⟩) ∧ ρ 12 = .int .i64 nd ∧ Dr BB (R * Dev d s * pt b6 (cl [.int .i64 0, .slice none 0 0] 111) * pt b11 (cl (xcs ((w : Int), (m : Int))) 46))) ?_ ?_
        · skip
          refine tc_reg ?_; refine tlm ?_; refine tv (o_nei rfl rfl) ?_; refine tlm ?_; refine tl_bool (d := 48) rfl (fun h => ?_) (fun h => ?_)
          · have hen : en ≠ 0 := by first | exact of_decide_eq_true h | simpa using h
            have hm0 : m < 1 := by rcases Nat.lt_or_ge m 1 with h9 | h9; exact h9; rw [need_one h9 (by omega)] at hnd; simp at hnd; omega
            have hmy0 := may_zero1 (n := s.ls.length * 64) (at_ := at_) (sz := sz) (w := w) hm0
            refine tk ?_; refine tk ?_; refine tk ?_; refine tk ?_; refine tv (o_pick_t rfl (by conv => lhs; whnf)) ?_; refine tlm ?_; refine tk ?_; refine tk ?_; refine tk ?_; refine tk ?_; refine tk ?_; refine tk ?_; refine tv (o_pick_t rfl (by conv => lhs; whnf)) ?_; refine tl_nil ?_; exact ⟨_, by first | exact (decide_eq_true (.inl (by assumption))).symm | (rw [decide_eq_decide]; simp only [hmy1, Bool.true_eq_false, false_or]; omega), rfl, rfl, rfl, rfl, rfl, rfl, (by repeat (first | with_reducible exact dr_refl | apply dr_keep | apply dr_drop))⟩
          · have hen : en = 0 := by first | (have h9 := of_decide_eq_false h; omega) | (simp at h; omega)
            have hm1 : 1 ≤ m := by rcases Nat.lt_or_ge m 1 with h9 | h9; have h8 : m = 0 := (by omega); subst h8; rw [need_zero] at hnd; simp at hnd; omega; exact h9
            have hnd1 : nd = ((24 + up8 m : Nat) : Int) := by rw [need_one hm1 (by omega)] at hnd; simp only [Prod.mk.injEq] at hnd; exact hnd.1.symm
            have hxw : XW ((w : Int), (m : Int)) := ⟨by show -9223372036854775808 ≤ (w : Int) ∧ (w : Int) ≤ 9223372036854775807; omega, by show -9223372036854775808 ≤ (m : Int) ∧ (m : Int) ≤ 9223372036854775807; omega⟩
            refine tlm ?_; refine tv (o_loadN (vs := xcs ((w : Int), (m : Int))) a46 sz46 rfl (by repeat (first | with_reducible exact has_here | with_reducible exact has_pt | apply has_left)) (by show 2 ≤ 2; decide) rfl) ?_; refine tl_c rfl (o_call bd59 rfl (may11_c (s := s) (x := ((w : Int), (m : Int))) (hl := by repeat (first | assumption | apply has_left)))) ?_; rintro _ _ ⟨rfl, rfl⟩; refine tv (o_not rfl) ?_; refine tv (o_pick_f rfl (by conv => lhs; whnf)) ?_; refine tlm ?_; refine tl_bool (d := 54) rfl (fun h => ?_) (fun h => ?_)
            · have hmy : mayX (s.ls.length * 64) at_ sz ((w : Int), (m : Int)) = false := by first | assumption | simpa using h
              refine tk ?_; refine tk ?_; refine tk ?_; refine tk ?_; refine tk ?_; refine tk ?_; refine tv (o_pick_t rfl (by conv => lhs; whnf)) ?_; refine tl_nil ?_; exact ⟨_, by first | exact (decide_eq_true (.inl (by assumption))).symm | (rw [decide_eq_decide]; simp only [hmy1, Bool.true_eq_false, false_or]; omega), rfl, rfl, rfl, rfl, rfl, rfl, (by repeat (first | with_reducible exact dr_refl | apply dr_keep | apply dr_drop))⟩
            · have hmy1 : mayX (s.ls.length * 64) at_ sz ((w : Int), (m : Int)) = true := by simpa using h
              refine tlm ?_; refine tlm ?_; refine tv (o_len Try.underlying22 rfl) ?_; refine tlm ?_; refine tv (o_subI rfl rfl (by omega)) ?_; refine tv (o_gtr rfl rfl) ?_; refine tv (o_pick_f rfl (by conv => lhs; whnf)) ?_; refine tl_nil ?_; exact ⟨_, by first | exact (decide_eq_true (.inl (by assumption))).symm | (rw [decide_eq_decide]; simp only [hmy1, Bool.true_eq_false, false_or]; omega), rfl, rfl, rfl, rfl, rfl, rfl, (by repeat (first | with_reducible exact dr_refl | apply dr_keep | apply dr_drop))⟩
        · intro ρ B hI
          obtain ⟨bb, hbc0, hE61, hE1, hE2, hE6, hE11, hE12, hBA⟩ := hI
          refine q_then_n ?_; refine tc_pre hBA.sat ?_
          clear hBA
          refine tc_env (d := 61) hE61 ?_; refine tc_env (d := 1) hE1 ?_; refine tc_env (d := 2) hE2 ?_; refine tc_env (d := 6) hE6 ?_; refine tc_env (d := 11) hE11 ?_; refine tc_env (d := 12) hE12 ?_
          clear hE61 hE1 hE2 hE6 hE11 hE12
          refine tc_cond rfl (fun h => ?_) (fun h => ?_)
          · have hor := of_decide_eq_true (show decide (mayX (s.ls.length * 64) at_ sz ((w : Int), (m : Int)) = false ∨ room.length < p + (24 + up8 m)) = true by rw [← hbc0]; exact h)
            refine sr ?_; refine tv (o_bS (l := [_, _]) pv_nil Try.underlying111 z111 (pl111 Try.underlying111) rfl) ?_; refine tl_u rfl (o_stUN rfl (by repeat (first | with_reducible exact upd_here | with_reducible exact upd_pt | apply upd_left)) sz111 rfl rfl rfl (by first | decide | simp | omega) rfl) ?_; refine tla ?_; refine tla ?_; refine nq ?_; refine tc_ret ?_; refine q_then_r ?_
            have e0 : (readS (s.ls.length * 64) at_ sz room p) = none := by rcases hor with h9 | h9; exact read_may (by rw [hwq, hmq]; exact h9); exact read_need (by rw [hmq]; exact h9)
            rw [e0]
            exact ⟨.tuple #[.agg #[.int .i64 0, .slice none 0 0], .int .i64 0, .bool false], R * Dev d s * Sl 1 (.slice none 0 0) 0 [], resA3 rfl (rv_cell a111 sz111 rfl (by repeat (first | with_reducible exact has_here | with_reducible exact has_pt | apply has_left)) (by show 2 ≤ 2; decide) rfl) (rv_tmp rfl) (rv_tmp rfl), fun _ _ h => sl_nil (Dr.sat (by repeat (first | with_reducible exact dr_refl | apply dr_keep | apply dr_drop)) _ _ h), none, 0, rfl, Nat.le_refl _, rfl⟩
          · have hor := of_decide_eq_false (show decide (mayX (s.ls.length * 64) at_ sz ((w : Int), (m : Int)) = false ∨ room.length < p + (24 + up8 m)) = false by rw [← hbc0]; exact h)
            have hmy : mayX (s.ls.length * 64) at_ sz ((w : Int), (m : Int)) = true := by rcases hb9 : mayX (s.ls.length * 64) at_ sz ((w : Int), (m : Int)) with _ | _; exact absurd (.inl hb9) hor; rfl
            have hnr : ¬ room.length < p + (24 + up8 m) := fun h9 => hor (.inr h9)
            have hm1 : 1 ≤ m := by rcases Nat.lt_or_ge m 1 with h9 | h9; rw [may_zero1 h9] at hmy; exact absurd hmy (by decide); exact h9
            have hup := up8_le m
            rw [need_one hm1 (by omega)] at hnd
            obtain ⟨rfl, rfl⟩ : ((24 + up8 m : Nat) : Int) = nd ∧ (0 : Int) = en := by simpa using hnd
            obtain ⟨old, hold⟩ : ∃ old, ((room.drop (p + 24)).take m) = old := ⟨_, rfl⟩
            have holl : old.length = m := by rw [← hold, List.length_take, List.length_drop]; omega
            have hob : ∀ x ∈ old, x < 256 := fun x hx => hb x (List.mem_of_mem_drop (List.mem_of_mem_take (hold.symm ▸ hx)))
            refine tc_skip ?_; refine q_then_n ?_; refine sr ?_; refine tlm ?_; refine tlm ?_; refine tv (by first | exact o_addI rfl rfl (by omega) | exact o_add rfl rfl) ?_; refine tl_env (d := 65) (v := .int .i64 ((p + 24 : Nat) : Int)) (by first | rfl | (show Value.int .i64 _ = _; congr 1; omega)) ?_; refine tlm ?_; refine tv (by first | exact o_addI rfl rfl (by omega) | exact o_add rfl rfl) ?_; refine tl_env (d := 67) (v := .int .i64 ((p + 24 : Nat) : Int)) (by first | rfl | (show Value.int .i64 _ = _; congr 1; omega)) ?_; refine tv (o_fieldAddr (o := 1) Try.underlying46 rfl rfl sz3 rfl) ?_; refine tv (by first | exact o_load p3 rfl (by repeat (first | with_reducible exact has_here | with_reducible exact has_pt | apply has_left)) rfl | exact o_loadC p3 rfl (by assumption)) ?_; refine tv (by first | exact o_addI rfl rfl (by omega) | exact o_add rfl rfl) ?_; refine tl_env (d := 70) (v := .int .i64 ((p + 24 + m : Nat) : Int)) (by first | rfl | (show Value.int .i64 _ = _; congr 1; omega)) ?_; refine tv (o_slice (l := p + 24) (h := p + 24 + m) Try.underlying22 sz5 rfl (bnd_nat rfl) (bnd_nat rfl) (by omega) (by omega)) ?_; refine tl_env (d := 71) (v := .slice (cutAddr a c (p + 24) 1) m (c - (p + 24))) (by show Value.slice (cutAddr a c (p + 24) 1) (p + 24 + m - (p + 24)) (c - (p + 24)) = _; rw [show p + 24 + m - (p + 24) = m by omega]) ?_
            refine tl_c rfl (o_call bd69 rfl (CloneB_c (l := old) (n := m) (hr := by rw [← hold]; exact (rs_mid (l := p + 24) (m := m) hr (by omega)).left.left.left))) ?_; rintro _ _ ⟨a72, c72, rfl, hc72, rfl⟩; refine tla ?_; refine nq ?_; refine tc_seq ?_; refine tc_seq ?_; refine tc_regh (S := R * Dev d s * pt b6 (cl [.int .i64 0, .slice none 0 0] 111) * pt b11 (cl (xcs ((w : Int), (m : Int))) 46) * Sl 1 (.slice a72 m c72) m (bys old)) mo (by repeat (first | with_reducible exact dr_refl | apply dr_keep | apply dr_drop)) ?_
            show TH _ _ _ _ _ 12 #[ff,ff,ff,ff,ff,ff,ff,ff,ff,ff,ff,ff] _ _
            refine th_take (i := 0) (listed' := #[tt,ff,ff,ff,ff,ff,ff,ff,ff,ff,ff,ff]) rfl (by kernel_rfl) (by kernel_rfl) (by kernel_rfl) rfl rfl (o_fieldAddr (o := 0) Try.underlying46 rfl rfl sz3 rfl) ?_; refine th_take (i := 1) (listed' := #[tt,tt,ff,ff,ff,ff,ff,ff,ff,ff,ff,ff]) rfl (by kernel_rfl) (by kernel_rfl) (by kernel_rfl) rfl rfl (by first | exact o_load p3 rfl (by repeat (first | with_reducible exact has_here | with_reducible exact has_pt | apply has_left)) rfl | exact o_loadC p3 rfl (by assumption)) ?_; refine th_take (i := 2) (listed' := #[tt,tt,tt,ff,ff,ff,ff,ff,ff,ff,ff,ff]) rfl (by kernel_rfl) (by kernel_rfl) (by kernel_rfl) rfl rfl (o_move (by conv => lhs; whnf)) ?_; refine th_take (i := 4) (listed' := #[tt,tt,tt,ff,tt,ff,ff,ff,ff,ff,ff,ff]) rfl (by kernel_rfl) (by kernel_rfl) (by kernel_rfl) rfl rfl (o_move (by conv => lhs; whnf)) ?_; refine th_take (i := 5) (listed' := #[tt,tt,tt,ff,tt,tt,ff,ff,ff,ff,ff,ff]) rfl (by kernel_rfl) (by kernel_rfl) (by kernel_rfl) rfl rfl (o_move (by conv => lhs; whnf)) ?_; refine th_take (i := 6) (listed' := #[tt,tt,tt,ff,tt,tt,tt,ff,ff,ff,ff,ff]) rfl (by kernel_rfl) (by kernel_rfl) (by kernel_rfl) rfl rfl (o_move (by conv => lhs; whnf)) ?_; refine th_take (i := 7) (listed' := #[tt,tt,tt,ff,tt,tt,tt,tt,ff,ff,ff,ff]) rfl (by kernel_rfl) (by kernel_rfl) (by kernel_rfl) rfl rfl (o_move (by conv => lhs; whnf)) ?_; refine th_take (i := 8) (listed' := #[tt,tt,tt,ff,tt,tt,tt,tt,tt,ff,ff,ff]) rfl (by kernel_rfl) (by kernel_rfl) (by kernel_rfl) rfl rfl (by first | exact o_addI rfl rfl (by omega) | exact o_add rfl rfl) ?_
            refine th_env (d := 81) (v := .int .i64 ((p + (24 + up8 m) : Nat) : Int)) (by first | rfl | (show Value.int .i64 _ = _; congr 1; omega)) ?_; refine th_take (i := 9) (listed' := #[tt,tt,tt,ff,tt,tt,tt,tt,tt,tt,ff,ff]) rfl (by kernel_rfl) (by kernel_rfl) (by kernel_rfl) rfl rfl (o_slice (l := p) (h := p + (24 + up8 m)) Try.underlying22 sz5 rfl (bnd_nat rfl) (bnd_nat rfl) (by omega) (by omega)) ?_; refine th_env (d := 82) (v := .slice (cutAddr a c p 1) (24 + up8 m) (c - p)) (by show Value.slice (cutAddr a c p 1) (p + (24 + up8 m) - p) (c - p) = _; rw [show p + (24 + up8 m) - p = 24 + up8 m by omega]) ?_; refine th_one (i := 3) (by kernel_rfl) ?_; refine oh_c (i := 3) (listed' := #[tt,tt,tt,tt,tt,tt,tt,tt,tt,tt,ff,ff]) rfl rfl rfl (o_call bd61 rfl (record_c (p := w) (m := m) (xs := old) (hm := holl))) ?_; rintro _ _ ⟨a76, c76, rfl, hc76, rfl⟩; refine ⟨by repeat (first | with_reducible exact dr_refl | apply dr_keep | apply dr_drop), ?_⟩; refine th_one (i := 10) (by kernel_rfl) ?_; refine oh_c (i := 10) (listed' := #[tt,tt,tt,tt,tt,tt,tt,tt,tt,tt,tt,ff]) rfl rfl rfl (o_call bd70 rfl (EqualB_c (xs := recS w old) (ys := (room.drop p).take (24 + up8 m)) (hx := by rw [recS_len, holl]) (hy := by rw [List.length_take, List.length_drop]; omega) (h2 := (rs_mid (l := p) (m := 24 + up8 m) hr (by omega)).left.left.left.left.left))) ?_; rintro _ _ ⟨rfl, rfl⟩; refine ⟨by repeat (first | with_reducible exact dr_refl | apply dr_keep | apply dr_drop), ?_⟩
            refine th_take (i := 11) (listed' := #[tt,tt,tt,tt,tt,tt,tt,tt,tt,tt,tt,tt]) rfl (by kernel_rfl) (by kernel_rfl) (by kernel_rfl) rfl rfl (o_not rfl) ?_; refine th_done (by kernel_rfl) ?_; refine q_then_n ?_; refine tc_cond rfl (fun h => ?_) (fun h => ?_)
            · have hne : recS w old ≠ (room.drop p).take (24 + up8 m) := fun e => by rw [e] at h; simp at h
              refine sr ?_; refine tv (o_bS (l := [_, _]) pv_nil Try.underlying111 z111 (pl111 Try.underlying111) rfl) ?_; refine tl_u rfl (o_stUN rfl (by repeat (first | with_reducible exact upd_here | with_reducible exact upd_pt | apply upd_left)) sz111 rfl rfl rfl (by first | decide | simp | omega) rfl) ?_; refine tla ?_; refine tla ?_; refine nq ?_; refine tc_ret ?_; refine q_then_r ?_
              have e0 : (readS (s.ls.length * 64) at_ sz room p) = none := by exact read_bad hwq hmq (by rw [hold]; exact hne)
              rw [e0]
              exact ⟨.tuple #[.agg #[.int .i64 0, .slice none 0 0], .int .i64 0, .bool false], R * Dev d s * Sl 1 (.slice none 0 0) 0 [], resA3 rfl (rv_cell a111 sz111 rfl (by repeat (first | with_reducible exact has_here | with_reducible exact has_pt | apply has_left)) (by show 2 ≤ 2; decide) rfl) (rv_tmp rfl) (rv_tmp rfl), fun _ _ h => sl_nil (Dr.sat (by repeat (first | with_reducible exact dr_refl | apply dr_keep | apply dr_drop)) _ _ h), none, 0, rfl, Nat.le_refl _, rfl⟩
            · have heq : recS w old = (room.drop p).take (24 + up8 m) := by simpa using h
              refine tc_skip ?_; refine q_then_n ?_; refine sr ?_; refine tv (o_fieldAddr (o := 0) Try.underlying46 rfl rfl sz3 rfl) ?_; refine tv (by first | exact o_load p3 rfl (by repeat (first | with_reducible exact has_here | with_reducible exact has_pt | apply has_left)) rfl | exact o_loadC p3 rfl (by assumption)) ?_; refine tlm ?_; refine tv (o_bS (l := [_, _]) (pv_cons (by conv => lhs; whnf) (pv_cons (by conv => lhs; whnf) pv_nil)) Try.underlying111 z111 (pl111 Try.underlying111) rfl) ?_; refine tlm ?_; refine tl_u rfl (o_stUN (l' := [.int .i64 (w : Int), .slice a72 m c72]) rfl (by repeat (first | with_reducible exact upd_here | with_reducible exact upd_pt | apply upd_left)) sz111 rfl rfl rfl (by show 2 ≤ 2; decide) rfl) ?_; refine tla ?_; refine tla ?_; refine nq ?_; refine tc_ret ?_
              have e0 : (readS (s.ls.length * 64) at_ sz room p) = some ((w, old), 24 + up8 m) := by rw [← hold]; exact read_good hwq hmq hsh hmy hnr (by rw [hold]; exact heq)
              rw [e0]
              exact ⟨.tuple #[.agg #[.int .i64 (w : Int), .slice a72 m c72], .int .i64 ((24 + up8 m : Nat) : Int), .bool true], R * Dev d s * Sl 1 (.slice a72 m c72) m (bys old), resA3 rfl (rv_cell a111 sz111 rfl (by repeat (first | with_reducible exact has_here | with_reducible exact has_pt | apply has_left)) (by show 2 ≤ 2; decide) rfl) (rv_tmp rfl) (rv_tmp rfl), Dr.sat (by repeat (first | with_reducible exact dr_refl | apply dr_keep | apply dr_drop)), a72, c72, by show _ = Value.tuple #[.agg #[.int .i64 (w : Int), .slice a72 old.length c72], _, _]; rw [holl]; rfl, by show old.length ≤ c72; rw [holl]; exact hc72, by show _ = R * Dev d s * Sl 1 (.slice a72 old.length c72) old.length (bys old); rw [holl]⟩
end Go.Vl

namespace Go.Vl
open Go Go.Proofs
def kcl : List (Nat × List Nat) → List Value → List Value
  | x :: l, v :: vs => .int .i64 (x.1 : Nat) :: v :: kcl l vs
  | _, _ => []
theorem kcl_len : ∀ {l : List (Nat × List Nat)} {vs : List Value}, vs.length = l.length → (kcl l vs).length = l.length * 2
  | [], [], _ => rfl
  | x :: l, v :: vs, h => by
    show (kcl l vs).length + 1 + 1 = _
    rw [kcl_len (by simpa using h), List.length_cons]; omega
theorem kcl_snoc : ∀ {l : List (Nat × List Nat)} {vs : List Value} {x : Nat × List Nat} {v : Value}, vs.length = l.length → kcl (l ++ [x]) (vs ++ [v]) = kcl l vs ++ [.int .i64 (x.1 : Nat), v]
  | [], [], _, _, _ => rfl
  | y :: l, u :: vs, x, v, h => by
    show _ :: u :: kcl (l ++ [x]) (vs ++ [v]) = _
    rw [kcl_snoc (by simpa using h)]; rfl
theorem wr_u64 {j : Nat} (h : j < 18446744073709551616) : IntKind.u64.wrap (j : Int) = (j : Int) := by simp [IntKind.wrap, IntKind.bits, IntKind.signed]; omega
theorem rd_some {o : Option ((Nat × List Nat) × Nat)} (h : o.isSome = true) : o = some ((rdW o, rdO o), rkT o) := by
  cases o with
  | none => cases h
  | some x => rfl
/-- What is read behind what was read. -/
def cat (D : List (Nat × List Nat)) (x : List (Nat × List Nat) × Int) : List (Nat × List Nat) × Int := if x.2 ≠ 0 then ([], 110) else (D ++ x.1, 0)
theorem recs_none {n at_ sz k p : Nat} {room : List Nat} {D : List (Nat × List Nat)} (h : readS n at_ sz room p = none) (hk : 0 < k) : cat D (recsF n at_ sz room k p) = ([], 110) := by
  obtain ⟨k, rfl⟩ : ∃ j, k = j + 1 := ⟨k - 1, by omega⟩
  unfold recsF; rw [h]; rfl
theorem recs_some {n at_ sz k p : Nat} {room : List Nat} {D : List (Nat × List Nat)} {x : Nat × List Nat} {t : Nat} (h : readS n at_ sz room p = some (x, t)) (hk : 0 < k) : cat D (recsF n at_ sz room k p) = cat (D ++ [x]) (recsF n at_ sz room (k - 1) (p + t)) := by
  obtain ⟨k, rfl⟩ : ∃ j, k = j + 1 := ⟨k - 1, by omega⟩
  rw [show k + 1 - 1 = k by omega]
  have e : recsF n at_ sz room (k + 1) p = if (recsF n at_ sz room k (p + t)).2 ≠ 0 then ([], 110) else (x :: (recsF n at_ sz room k (p + t)).1, 0) := by
    rw [show recsF n at_ sz room (k + 1) p = match readS n at_ sz room p with
      | none => ([], 110)
      | some (x, t) => if (recsF n at_ sz room k (p + t)).2 ≠ 0 then ([], 110) else (x :: (recsF n at_ sz room k (p + t)).1, 0) from rfl, h]
  rw [e]
  unfold cat
  by_cases h2 : (recsF n at_ sz room k (p + t)).2 ≠ 0
  · rw [if_pos h2, if_pos h2, if_pos (by decide)]
  · rw [if_neg h2, if_neg h2, if_neg (by simp), List.append_assoc]; rfl
theorem recs_err {n at_ sz : Nat} {room : List Nat} : ∀ {k p : Nat}, (recsF n at_ sz room k p).2 ≠ 0 → recsF n at_ sz room k p = ([], 110)
  | 0, p, h => absurd rfl h
  | k + 1, p, h => by
    have e : recsF n at_ sz room (k + 1) p = match readS n at_ sz room p with
      | none => ([], 110)
      | some (x, t) => if (recsF n at_ sz room k (p + t)).2 ≠ 0 then ([], 110) else (x :: (recsF n at_ sz room k (p + t)).1, 0) := rfl
    rw [e] at h ⊢
    cases hr : readS n at_ sz room p with
    | none => rfl
    | some y =>
      rw [hr] at h
      simp only at h ⊢
      by_cases h2 : (recsF n at_ sz room k (p + y.2)).2 ≠ 0
      · rw [if_pos h2]
      · rw [if_neg h2] at h; exact absurd rfl h
theorem cat_nil {n at_ sz k p : Nat} {room : List Nat} : cat [] (recsF n at_ sz room k p) = recsF n at_ sz room k p := by
  unfold cat
  by_cases h : (recsF n at_ sz room k p).2 ≠ 0
  · rw [if_pos h, recs_err h]
  · rw [if_neg h]; exact Prod.ext rfl (by simp only; omega)
theorem read_room {n at_ sz p : Nat} {room : List Nat} {x : Nat × List Nat} {t : Nat} (h : readS n at_ sz room p = some (x, t)) : p + t ≤ room.length ∧ 24 ≤ t := by
  unfold readS at h
  split at h; cases h
  split at h; cases h
  split at h; cases h
  rename_i h3
  split at h; cases h
  simp only [Option.some.injEq, Prod.mk.injEq] at h
  omega
attribute [local irreducible] crk crL crc Sl pt ro Dev imgS recS readS recsF rdW rdO rkT Parts
set_option maxRecDepth 20000 in
set_option maxHeartbeats 2000000 in
theorem Records_c {A R : SP} {C : SP → SP} {d : Nat} {s : DevS} (hc : Ct A (Dev d s) R C := by repeat (first | with_reducible exact ct_here | apply ct_left)) {bl at_ sz : Nat} (hl : Has R bl (cl (lcs11 d at_ sz) 109) := by (repeat (first | assumption | with_reducible exact has_here | with_reducible exact has_pt | apply has_left))) (hlw : LogW (s.ls.length * 64) at_ sz := by assumption) :
    Fn Try.prog 37 #[.pointer (some ⟨bl, 0, none⟩)] (A) (fun r B => ∃ a2 c2 vs, r = .tuple #[.slice a2 (recordsS at_ sz s).1.length c2, .int .i64 (recordsS at_ sz s).2] ∧ (recordsS at_ sz s).1.length ≤ c2 ∧ vs.length = (recordsS at_ sz s).1.length ∧ B = C (Dev d s) * Parts vs ((recordsS at_ sz s).1.map (·.2)) * Sl 2 (.slice a2 (recordsS at_ sz s).1.length c2) (recordsS at_ sz s).1.length (kcl (recordsS at_ sz s).1 vs)) := by
  refine fn_enterW (args := [.pointer (some ⟨bl, 0, none⟩)]) Try.func37 rfl Try.ntmps37 (by simp) ?_; refine tc_have (fun _ _ h => ct_wf2 hc h) fun hw => ?_
  have htop := hw.top
  have hpos := hw.pos
  obtain ⟨rfl, hC⟩ := hc
  have hAC : ∀ g w, sat g w (R * Dev d s) → sat g w (C (Dev d s)) := fun g w h => by rw [hC]; exact h
  have hlw9 := hlw
  obtain ⟨w1, w2, w3, w4, w5⟩ := hlw9
  refine sr ?_; refine tla ?_; refine tla ?_; refine nq ?_; refine tc_seq ?_; refine sr ?_; refine tlm ?_; refine tl_c rfl (o_call bd51 rfl (ready11_c (s := s) (hl := hl))) ?_; rintro _ _ ⟨rfl, rfl⟩; refine tla ?_; refine nq ?_; refine sr ?_; refine tlm ?_; refine tv (o_nei rfl rfl) ?_; refine nq ?_; refine tc_cond rfl (fun h => ?_) (fun h => ?_)
  · try simp only [lv1, lv2, lv3, lv4, lv5, lv6, Bool.not_true, Bool.not_false] at h
    refine sr ?_; refine tlm ?_; refine tla ?_; refine tla ?_; refine nq ?_; refine tc_ret ?_; refine q_then_r ?_
    have ho := stE_off h
    have es : stE s = 5 := by unfold stE; rw [if_pos ho]
    rw [es]
    have e0 : recordsS at_ sz s = ([], 5) := by unfold recordsS; rw [if_pos ho]
    rw [e0]
    exact ⟨.tuple #[.slice none 0 0, .int .i64 (5)], C (Dev d s) * Parts [] [] * Sl 2 (.slice none 0 0) 0 [], res2 rfl rfl rfl, fun _ _ h => sl_nil (show sat _ _ (C (Dev d s) * Parts [] []) by rw [hC, show Parts [] [] = emp by unfold Parts; rfl, star_emp]; exact Dr.sat (A' := R * Dev d s) (by repeat (first | with_reducible exact dr_refl | apply dr_keep | apply dr_drop)) _ _ h), none, 0, [], rfl, Nat.le_refl _, rfl, rfl⟩
  · have ho : s.off = false := stE_on (by simpa using h)
    have hw2 := word_in (p := at_) ho (by omega) (by omega)
    obtain ⟨v, hv⟩ : ∃ v, (wordP (at_ : Nat) s).1 = v := ⟨_, rfl⟩
    have hvl : v < 18446744073709551616 := by rw [← hv, hw2]; exact nm8_lt fun x hx => img_lt x (List.mem_of_mem_drop hx)
    obtain ⟨room, hroom⟩ : ∃ room, roomS at_ sz s = room := ⟨_, rfl⟩
    have hil := imgS_len hw
    have hrl : room.length = sz - 64 := by rw [← hroom]; unfold roomS; rw [List.length_take, List.length_drop, hil]; omega
    have hrb : ∀ x ∈ room, x < 256 := fun x hx => by rw [← hroom] at hx; exact img_sub x hx
    have hrec : recordsS at_ sz s = recsF (s.ls.length * 64) at_ sz room v 0 := by unfold recordsS; rw [if_neg (by rw [ho]; decide), hv, hroom]
    refine tc_skip ?_; refine q_then_n ?_; refine tc_seq ?_; refine tc_regq mo (by kernel_rfl) ?_; refine ql_v rfl (o_move (by conv => lhs; whnf)) ?_; refine ql_v rfl (o_nilCheck rfl) ?_; refine ql_v rfl (o_fieldAddr (o := 0) Try.underlying109 rfl rfl sz26 rfl) ?_; refine ql_v rfl (o_load p26 rfl (by repeat (first | assumption | apply has_left)) rfl) ?_; refine ql_v rfl (o_move (by conv => lhs; whnf)) ?_; refine ql_v rfl (o_nilCheck rfl) ?_; refine ql_v rfl (o_fieldAddr (o := 1) Try.underlying109 rfl rfl sz3 rfl) ?_; refine ql_v rfl (o_load p3 rfl (by repeat (first | assumption | apply has_left)) rfl) ?_; refine ql_c rfl (fun w => exec_call bd52 rfl) (Word_c (s := s) (p := (at_ : Nat))) ?_; refine ql_v rfl (o_move (by conv => lhs; whnf)) ?_; refine ql_v rfl (o_extract rfl rfl) ?_; refine ql_env (d := 28) (v := .int .u64 (v : Nat)) (by show Value.int .u64 ((wordP (at_ : Nat) s).1 : Nat) = _; rw [hv]) ?_; refine ql_v rfl (o_extract rfl rfl) ?_; refine ql_env (d := 29) (v := .int .i64 0) (by show Value.int .i64 (wordP (at_ : Nat) s).2 = _; rw [hw2]) ?_; refine ql_v rfl (o_assign (by conv => lhs; whnf)) ?_; refine ql_v rfl (o_assign (by conv => lhs; whnf)) ?_; refine ql_nil ?_; refine q_then_n ?_; refine tc_seq ?_; refine sr ?_; refine tlm ?_; refine tv (o_nei rfl rfl) ?_; refine nq ?_; refine tc_cond rfl (fun h => ?_) (fun h => ?_)
    · exfalso; simp at h
    · try simp only [lv1, lv2, lv3, lv4, lv5, lv6, Bool.not_true, Bool.not_false] at h
      refine tc_skip ?_; refine q_then_n ?_; refine tc_seq ?_; refine sr ?_; refine tlm ?_; refine tv (o_eqi rfl rfl) ?_; refine nq ?_; refine tc_cond rfl (fun h => ?_) (fun h => ?_)
      · have hv0 : v = 0 := by first | (have h9 := of_decide_eq_true h; omega) | (simp at h; omega)
        refine sr ?_; refine tla ?_; refine tla ?_; refine nq ?_; refine tc_ret ?_; refine q_then_r ?_
        have e0 : recordsS at_ sz s = ([], 0) := by rw [hrec, hv0]; unfold recsF; rfl
        rw [e0]
        exact ⟨.tuple #[.slice none 0 0, .int .i64 (0)], C (Dev d s) * Parts [] [] * Sl 2 (.slice none 0 0) 0 [], res2 rfl rfl rfl, fun _ _ h => sl_nil (show sat _ _ (C (Dev d s) * Parts [] []) by rw [hC, show Parts [] [] = emp by unfold Parts; rfl, star_emp]; exact Dr.sat (A' := R * Dev d s) (by repeat (first | with_reducible exact dr_refl | apply dr_keep | apply dr_drop)) _ _ h), none, 0, [], rfl, Nat.le_refl _, rfl, rfl⟩
      · have hv0 : v ≠ 0 := by first | (have h9 := of_decide_eq_false h; omega) | (simp at h; omega)
        refine tc_skip ?_; refine q_then_n ?_; refine tc_seq ?_; refine tc_regh (S := R) mo (by repeat (first | with_reducible exact dr_refl | apply dr_keep | apply dr_drop)) ?_
        show TH _ _ _ _ _ 20 #[ff,ff,ff,ff,ff,ff,ff,ff,ff,ff,ff,ff,ff,ff,ff,ff,ff,ff,ff,ff] _ _
        refine th_take (i := 0) (listed' := #[tt,ff,ff,ff,ff,ff,ff,ff,ff,ff,ff,ff,ff,ff,ff,ff,ff,ff,ff,ff]) rfl (by kernel_rfl) (by kernel_rfl) (by kernel_rfl) rfl rfl (o_move (by conv => lhs; whnf)) ?_; refine th_take (i := 1) (listed' := #[tt,tt,ff,ff,ff,ff,ff,ff,ff,ff,ff,ff,ff,ff,ff,ff,ff,ff,ff,ff]) rfl (by kernel_rfl) (by kernel_rfl) (by kernel_rfl) rfl rfl (o_nilCheck rfl) ?_; refine th_take (i := 2) (listed' := #[tt,tt,tt,ff,ff,ff,ff,ff,ff,ff,ff,ff,ff,ff,ff,ff,ff,ff,ff,ff]) rfl (by kernel_rfl) (by kernel_rfl) (by kernel_rfl) rfl rfl (o_fieldAddr (o := 0) Try.underlying109 rfl rfl sz26 rfl) ?_; refine th_take (i := 3) (listed' := #[tt,tt,tt,tt,ff,ff,ff,ff,ff,ff,ff,ff,ff,ff,ff,ff,ff,ff,ff,ff]) rfl (by kernel_rfl) (by kernel_rfl) (by kernel_rfl) rfl rfl (o_load p26 rfl (by repeat (first | assumption | apply has_left)) rfl) ?_; refine th_take (i := 4) (listed' := #[tt,tt,tt,tt,tt,ff,ff,ff,ff,ff,ff,ff,ff,ff,ff,ff,ff,ff,ff,ff]) rfl (by kernel_rfl) (by kernel_rfl) (by kernel_rfl) rfl rfl (o_move (by conv => lhs; whnf)) ?_; refine th_take (i := 5) (listed' := #[tt,tt,tt,tt,tt,tt,ff,ff,ff,ff,ff,ff,ff,ff,ff,ff,ff,ff,ff,ff]) rfl (by kernel_rfl) (by kernel_rfl) (by kernel_rfl) rfl rfl (o_nilCheck rfl) ?_; refine th_take (i := 6) (listed' := #[tt,tt,tt,tt,tt,tt,tt,ff,ff,ff,ff,ff,ff,ff,ff,ff,ff,ff,ff,ff]) rfl (by kernel_rfl) (by kernel_rfl) (by kernel_rfl) rfl rfl (o_fieldAddr (o := 1) Try.underlying109 rfl rfl sz3 rfl) ?_; refine th_take (i := 7) (listed' := #[tt,tt,tt,tt,tt,tt,tt,tt,ff,ff,ff,ff,ff,ff,ff,ff,ff,ff,ff,ff]) rfl (by kernel_rfl) (by kernel_rfl) (by kernel_rfl) rfl rfl (o_load p3 rfl (by repeat (first | assumption | apply has_left)) rfl) ?_
        refine th_take (i := 8) (listed' := #[tt,tt,tt,tt,tt,tt,tt,tt,tt,ff,ff,ff,ff,ff,ff,ff,ff,ff,ff,ff]) rfl (by kernel_rfl) (by kernel_rfl) (by kernel_rfl) rfl rfl (by first | exact o_addI rfl rfl (by omega) | exact o_add rfl rfl) ?_; refine th_env (d := 44) (v := .int .i64 ((at_ + 64 : Nat) : Int)) (by first | rfl | (show Value.int .i64 _ = _; congr 1; omega)) ?_; refine th_take (i := 9) (listed' := #[tt,tt,tt,tt,tt,tt,tt,tt,tt,tt,ff,ff,ff,ff,ff,ff,ff,ff,ff,ff]) rfl (by kernel_rfl) (by kernel_rfl) (by kernel_rfl) rfl rfl (o_move (by conv => lhs; whnf)) ?_; refine th_take (i := 10) (listed' := #[tt,tt,tt,tt,tt,tt,tt,tt,tt,tt,tt,ff,ff,ff,ff,ff,ff,ff,ff,ff]) rfl (by kernel_rfl) (by kernel_rfl) (by kernel_rfl) rfl rfl (o_nilCheck rfl) ?_; refine th_take (i := 11) (listed' := #[tt,tt,tt,tt,tt,tt,tt,tt,tt,tt,tt,tt,ff,ff,ff,ff,ff,ff,ff,ff]) rfl (by kernel_rfl) (by kernel_rfl) (by kernel_rfl) rfl rfl (o_fieldAddr (o := 2) Try.underlying109 rfl rfl sz3 rfl) ?_; refine th_take (i := 12) (listed' := #[tt,tt,tt,tt,tt,tt,tt,tt,tt,tt,tt,tt,tt,ff,ff,ff,ff,ff,ff,ff]) rfl (by kernel_rfl) (by kernel_rfl) (by kernel_rfl) rfl rfl (o_load p3 rfl (by repeat (first | assumption | apply has_left)) rfl) ?_; refine th_take (i := 13) (listed' := #[tt,tt,tt,tt,tt,tt,tt,tt,tt,tt,tt,tt,tt,tt,ff,ff,ff,ff,ff,ff]) rfl (by kernel_rfl) (by kernel_rfl) (by kernel_rfl) rfl rfl (o_subI rfl rfl (by omega)) ?_; refine th_env (d := 49) (v := .int .i64 ((sz - 64 : Nat) : Int)) (by show Value.int .i64 ((sz : Int) - 64) = _; congr 1; omega) ?_
        refine th_one (i := 14) (by kernel_rfl) ?_; refine oh_c (i := 14) (listed' := #[tt,tt,tt,tt,tt,tt,tt,tt,tt,tt,tt,tt,tt,tt,tt,ff,ff,ff,ff,ff]) rfl rfl rfl (o_call bd28 rfl (Load_c (s := s) (p := at_ + 64) (m := sz - 64))) ?_; rintro _ _ ⟨a50, c50, rfl, hc50, rfl⟩; refine ⟨by repeat (first | with_reducible exact dr_refl | apply dr_keep | apply dr_drop), ?_⟩; refine th_take (i := 15) (listed' := #[tt,tt,tt,tt,tt,tt,tt,tt,tt,tt,tt,tt,tt,tt,tt,tt,ff,ff,ff,ff]) rfl (by kernel_rfl) (by kernel_rfl) (by kernel_rfl) rfl rfl (o_move (by conv => lhs; whnf)) ?_; refine th_take (i := 16) (listed' := #[tt,tt,tt,tt,tt,tt,tt,tt,tt,tt,tt,tt,tt,tt,tt,tt,tt,ff,ff,ff]) rfl (by kernel_rfl) (by kernel_rfl) (by kernel_rfl) rfl rfl (o_extract rfl rfl) ?_; refine th_take (i := 17) (listed' := #[tt,tt,tt,tt,tt,tt,tt,tt,tt,tt,tt,tt,tt,tt,tt,tt,tt,tt,ff,ff]) rfl (by kernel_rfl) (by kernel_rfl) (by kernel_rfl) rfl rfl (o_extract rfl rfl) ?_; refine th_take (i := 18) (listed' := #[tt,tt,tt,tt,tt,tt,tt,tt,tt,tt,tt,tt,tt,tt,tt,tt,tt,tt,tt,ff]) rfl (by kernel_rfl) (by kernel_rfl) (by kernel_rfl) rfl rfl (o_assign (by conv => lhs; whnf)) ?_; refine th_take (i := 19) (listed' := #[tt,tt,tt,tt,tt,tt,tt,tt,tt,tt,tt,tt,tt,tt,tt,tt,tt,tt,tt,tt]) rfl (by kernel_rfl) (by kernel_rfl) (by kernel_rfl) rfl rfl (o_assign (by conv => lhs; whnf)) ?_; refine th_done (by kernel_rfl) ?_; refine q_then_n ?_; refine tc_seq ?_; refine sr ?_
        refine tlm ?_; refine tv (o_nei rfl rfl) ?_; refine nq ?_; refine tc_cond rfl (fun h => ?_) (fun h => ?_)
        · exfalso; simp at h
        · try simp only [lv1, lv2, lv3, lv4, lv5, lv6, Bool.not_true, Bool.not_false] at h
          refine tc_skip ?_; refine q_then_n ?_; refine sr ?_; refine tla ?_; refine nq ?_; refine sr ?_; refine tla ?_; refine nq ?_; refine tc_seq ?_; refine tc_block ?_; refine tc_pre (A' := R * Dev d s * Sl 1 (.slice a50 (sz - 64) c50) (sz - 64) (bys room) * Parts [] [] * Sl 2 (.slice none 0 0) 0 []) (fun _ _ h => sl_nil (show sat _ _ (R * Dev d s * Sl 1 (.slice a50 (sz - 64) c50) (sz - 64) (bys room) * Parts [] []) by rw [show Parts [] [] = emp by unfold Parts; rfl, star_emp]; rw [← hroom]; exact h)) ?_; refine tc_loop (fun kk ρ BB => ∃ (j : Nat) (p : Nat) (n : Nat) (D : List (Nat × List Nat)) (vs : List Value) (a8 : Option Addr) (c8 : Nat), (cat D (recsF (s.ls.length * 64) at_ sz room j p) = recordsS at_ sz s) ∧ (p ≤ sz - 64) ∧ (D.length = n) ∧ (vs.length = n) ∧ (n ≤ c8) ∧ (j < 18446744073709551616) ∧ (24 * n ≤ p) ∧ kk = j ∧ ρ 5 = .int .u64 (j : Nat) ∧ ρ 8 = .slice a8 n c8 ∧ ρ 9 = .int .i64 (p : Nat) ∧ ρ 0 = .pointer (some ⟨bl, 0, none⟩) ∧ ρ 7 = .slice a50 (sz - 64) c50 ∧ Dr BB (R * Dev d s * Sl 1 (.slice a50 (sz - 64) c50) (sz - 64) (bys room) * Parts vs (D.map (·.2)) * Sl 2 (.slice a8 n c8) n (kcl D vs))) (m := (v)) ?_ ?_
          · exact ⟨v, 0, 0, [], [], none, 0, by rw [hrec, cat_nil], by omega, rfl, rfl, by omega, hvl, by omega, rfl, rfl, rfl, rfl, rfl, rfl, (by repeat (first | with_reducible exact dr_refl | apply dr_keep | apply dr_drop))⟩
          · intro k ρ B hI
            obtain ⟨j, p, n, D, vs, a8, c8, hp0, hp1, hp2, hp3, hp4, hp5, hp6, hkk1, hE5, hE8, hE9, hE0, hE7, hBA⟩ := hI
            refine tc_pre hBA.sat ?_
            clear hBA
            refine tc_env (d := 5) hE5 ?_; refine tc_env (d := 8) hE8 ?_; refine tc_env (d := 9) hE9 ?_; refine tc_env (d := 0) hE0 ?_; refine tc_env (d := 7) hE7 ?_
            clear hE5 hE8 hE9 hE0 hE7
            refine tc_seq ?_; refine sr ?_; refine tlm ?_; refine tv (o_gtr rfl rfl) ?_; refine nq ?_; refine tc_cond rfl (fun h => ?_) (fun h => ?_)
            · have hj : 0 < j := by first | omega | (simp at h; omega)
              refine tc_skip ?_; refine q_then_n ?_; refine tc_seq ?_; refine tc_block ?_; refine sr ?_; refine tlm ?_; refine tlm ?_; refine tlm ?_; refine tl_c rfl (o_call bd53 rfl (read_c (s := s) (p := p) (room := room))) ?_; rintro _ _ ⟨a64, c64, rfl, hc64, rfl⟩; refine tlm ?_; refine tv (o_extract rfl rfl) ?_; refine tv (o_extract rfl rfl) ?_; refine tv (o_extract rfl rfl) ?_; refine tl_x rfl (o_alloc z111 rfl) ?_; rintro _ _ ⟨b10, rfl, rfl⟩; refine tl_u rfl (o_stUN (l' := [.int .i64 ((rdW (readS (s.ls.length * 64) at_ sz room p) : Nat) : Int), (.slice a64 (rdO (readS (s.ls.length * 64) at_ sz room p)).length c64)]) rfl (by repeat (first | with_reducible exact upd_here | with_reducible exact upd_pt | apply upd_left)) sz111 rfl rfl rfl (by show 2 ≤ 2; decide) rfl) ?_; refine tla ?_; refine tla ?_; refine nq ?_; refine tc_seq ?_; refine sr ?_; refine tlm ?_; refine tv (o_not rfl) ?_; refine nq ?_; refine tc_cond rfl (fun h => ?_) (fun h => ?_)
              · have hrd : (readS (s.ls.length * 64) at_ sz room p) = none := by rcases hq9 : (readS (s.ls.length * 64) at_ sz room p) with _ | x; rfl; rw [hq9] at h; simp at h
                refine sr ?_; refine tla ?_; refine tla ?_; refine nq ?_; refine tc_ret ?_; refine q_then_r (q_block_r (q_then_r (q_then_r (q_block_r (q_then_r ?_)))))
                have e0 : recordsS at_ sz s = ([], 110) := by rw [← hp0, recs_none hrd hj]
                rw [e0]
                exact ⟨.tuple #[.slice none 0 0, .int .i64 (110)], C (Dev d s) * Parts [] [] * Sl 2 (.slice none 0 0) 0 [], res2 rfl rfl rfl, fun _ _ h => sl_nil (show sat _ _ (C (Dev d s) * Parts [] []) by rw [hC, show Parts [] [] = emp by unfold Parts; rfl, star_emp]; exact Dr.sat (A' := R * Dev d s) (by repeat (first | with_reducible exact dr_refl | apply dr_keep | apply dr_drop)) _ _ h), none, 0, [], rfl, Nat.le_refl _, rfl, rfl⟩
              · have hrd := rd_some (o := (readS (s.ls.length * 64) at_ sz room p)) (by simpa using h)
                have hrm := read_room hrd
                refine tc_skip ?_; refine q_then_n ?_; refine sr ?_; refine tlm ?_; refine tv (o_loadN (vs := [.int .i64 ((rdW (readS (s.ls.length * 64) at_ sz room p) : Nat) : Int), (.slice a64 (rdO (readS (s.ls.length * 64) at_ sz room p)).length c64)]) a111 sz111 rfl (by repeat (first | with_reducible exact has_here | with_reducible exact has_pt | apply has_left)) (by show 2 ≤ 2; decide) rfl) ?_; refine tl_x rfl (o_buildSliceK (k := 2) (l := [.int .i64 ((rdW (readS (s.ls.length * 64) at_ sz room p) : Nat) : Int), (.slice a64 (rdO (readS (s.ls.length * 64) at_ sz room p)).length c64)]) Try.underlying88 sz111 z111 rfl rfl (by decide)) ?_; rintro _ _ ⟨b72, rfl, rfl⟩; refine tl_x rfl (o_apB Try.underlying88 Try.underlying88 sz111 by111 z111 rfl (by decide) (by decide) rfl rfl rfl (by repeat (first | with_reducible exact ct_here | apply ct_left)) rfl rfl (by omega) (show _ = kcl (D ++ [(rdW (readS (s.ls.length * 64) at_ sz room p), rdO (readS (s.ls.length * 64) at_ sz room p))]) (vs ++ [(.slice a64 (rdO (readS (s.ls.length * 64) at_ sz room p)).length c64)]) by rw [kcl_snoc (by omega)])) ?_; rintro _ _ ⟨a73, c73, rfl, hc73, rfl⟩
                have hps : Parts (vs ++ [(.slice a64 (rdO (readS (s.ls.length * 64) at_ sz room p)).length c64)]) ((D ++ [(rdW (readS (s.ls.length * 64) at_ sz room p), rdO (readS (s.ls.length * 64) at_ sz room p))]).map (·.2)) = Parts vs (D.map (·.2)) * Sl 1 (.slice a64 (rdO (readS (s.ls.length * 64) at_ sz room p)).length c64) (rdO (readS (s.ls.length * 64) at_ sz room p)).length (bys (rdO (readS (s.ls.length * 64) at_ sz room p))) := by rw [List.map_append]; exact parts_snoc (by rw [List.length_map]; omega)
                refine tl_eq (show _ = R * Dev d s * Sl 1 (.slice a50 (sz - 64) c50) (sz - 64) (bys room) * Parts (vs ++ [(.slice a64 (rdO (readS (s.ls.length * 64) at_ sz room p)).length c64)]) ((D ++ [(rdW (readS (s.ls.length * 64) at_ sz room p), rdO (readS (s.ls.length * 64) at_ sz room p))]).map (·.2)) * Sl 2 (.slice a73 (n + 1) c73) (n + 1) (kcl (D ++ [(rdW (readS (s.ls.length * 64) at_ sz room p), rdO (readS (s.ls.length * 64) at_ sz room p))]) (vs ++ [(.slice a64 (rdO (readS (s.ls.length * 64) at_ sz room p)).length c64)])) * pt b10 (cl ([.int .i64 ((rdW (readS (s.ls.length * 64) at_ sz room p) : Nat) : Int), (.slice a64 (rdO (readS (s.ls.length * 64) at_ sz room p)).length c64)] : List Value) 111) by rw [hps]; ac_rfl) ?_; refine tla ?_; refine nq ?_; refine tc_reg ?_; refine tlm ?_; refine tlm ?_; refine tv (by first | exact o_addI rfl rfl (by omega) | exact o_add rfl rfl) ?_; refine tl_env (d := 76) (v := .int .i64 ((p + rkT (readS (s.ls.length * 64) at_ sz room p) : Nat) : Int)) (by first | rfl | (show Value.int .i64 _ = _; congr 1; omega)) ?_; refine tla ?_; refine tl_nil ?_; refine q_block_n (q_then_n ?_); refine tc_reg ?_; refine tlm ?_; refine tv (o_sub rfl rfl) ?_; refine tl_env (d := 59) (v := .int .u64 ((j - 1 : Nat) : Int)) (by show Value.int .u64 (IntKind.u64.wrap ((j : Int) - 1)) = _; rw [show (j : Int) - 1 = ((j - 1 : Nat) : Int) by omega, wr_u64 (by omega)]) ?_
                refine tla ?_; refine nq ?_; exact ⟨_, by omega, j - 1, _, n + 1, D ++ [(rdW (readS (s.ls.length * 64) at_ sz room p), rdO (readS (s.ls.length * 64) at_ sz room p))], vs ++ [(.slice a64 (rdO (readS (s.ls.length * 64) at_ sz room p)).length c64)], a73, c73, by rw [← recs_some hrd hj]; exact hp0, by omega, by rw [List.length_append, hp2]; rfl, by rw [List.length_append, hp3]; rfl, hc73, by omega, by omega, rfl, rfl, rfl, rfl, rfl, rfl, (by repeat (first | with_reducible exact dr_refl | apply dr_keep | apply dr_drop))⟩
            · obtain rfl : j = 0 := by first | omega | (simp at h; omega)
              refine tc_exit ?_; refine q_then_e (q_then_e (q_block_x (q_then_n ?_))); refine sr ?_; refine tlm ?_; refine tla ?_; refine tla ?_; refine nq ?_; refine tc_ret ?_
              have e0 : recordsS at_ sz s = (D, 0) := by rw [← hp0]; unfold recsF cat; rw [if_neg (by simp), List.append_nil]
              rw [e0]
              exact ⟨.tuple #[.slice a8 n c8, .int .i64 0], R * Dev d s * Parts vs (D.map (·.2)) * Sl 2 (.slice a8 n c8) n (kcl D vs), res2 rfl rfl rfl, Dr.sat (by repeat (first | with_reducible exact dr_refl | apply dr_keep | apply dr_drop)), a8, c8, vs, by rw [hp2], by rw [hp2]; exact hp4, by rw [hp3]; exact hp2.symm, by rw [hC]; simp only []; rw [hp2]⟩
end Go.Vl

namespace Go.Vl
open Go Go.Proofs
namespace Rg
section
variable {P : Program} {n : Nat} {ops : Array Oper} {A : SP} {ρ : Env} {o : Oper} {rest : List Oper} {Q : Post}
def QL (P : Program) (n : Nat) (ops : Array Oper) (A : SP) (K : Env → Prop) (l : List Oper) (ρ : Env) : Prop :=
  ∀ g a, Agr n ρ a → wpQuietIn (Fc ⟨none⟩) 0 P ops (fun w => sat g w A) (fun a' => ∃ ρ', Agr n ρ' a' ∧ K ρ') l a
theorem ql_nil {K : Env → Prop} (h : K ρ) : QL P n ops A K [] ρ := fun g a ha => wpQuietIn_nil ⟨ρ, ha, h⟩
theorem ql_skip {K : Env → Prop} (hw : wantE n ops ρ o = false) (k : QL P n ops A K rest (put n ρ o.dst undef)) : QL P n ops A K (o :: rest) ρ := fun g a ha => by
  unfold wpQuietIn
  rw [want_eq ha, hw]
  exact ⟨fun _ _ _ _ => trivial, k g _ (ha.put _ _)⟩
theorem ql_v {K : Env → Prop} {v : Value} (hw : wantE n ops ρ o = true) (h : OpV P n ρ A o v) (k : QL P n ops A K rest (put n ρ o.dst v)) : QL P n ops A K (o :: rest) ρ := fun g a ha => by
  unfold wpQuietIn
  rw [want_eq ha, hw, if_pos rfl]
  refine ⟨fun _ _ _ _ => trivial, v, fun w hs => ?_, k g _ (ha.put _ _)⟩
  unfold Oper.quietAtIn
  rw [ha.eval, h g w hs]
  exact ⟨rfl, rfl⟩
theorem ql_env {K : Env → Prop} {l : List Oper} {d : Nat} {v : Value} (h : ρ d = v) (k : QL P n ops A K l (upd ρ d v)) : QL P n ops A K l ρ := by
  rw [← env_set h] at k; exact k
theorem ql_bool {K : Env → Prop} {l : List Oper} {d : Nat} {b : Bool} (hv : ρ d = .bool b) (ht : b = true → QL P n ops A K l (upd ρ d (.bool true))) (hf : b = false → QL P n ops A K l (upd ρ d (.bool false))) : QL P n ops A K l ρ := by
  cases b with
  | true => exact ql_env hv (ht rfl)
  | false => exact ql_env hv (hf rfl)
theorem tc_regq {id : Nat} {l : List Oper} (hm : P.follows .mixedOrders = true) (hB : Region.lexB .any l.toArray = true) (h : QL P n l.toArray A (fun ρ' => Q .normal ρ' A) l ρ) :
    @TC ⟨none⟩ P n (.region id l.toArray true) Q ρ A := fun g a w ha hs => by
  refine wpIn_region_quiet (C := fun w => sat g w A) rfl hm hB (hs.draw rfl rfl rfl rfl) ?_
  have hh := h g a ha
  have he : l.toArray.toList = l := by simp
  rw [he]
  have mono : ∀ (l' : List Oper) (a : Act), wpQuietIn (Fc ⟨none⟩) 0 P l.toArray (fun w => sat g w A) (fun a' => ∃ ρ', Agr n ρ' a' ∧ Q .normal ρ' A) l' a →
      wpQuietIn (Fc ⟨none⟩) 0 P l.toArray (fun w => sat g w A) (fun a' => ∀ w', sat g w' A → lift g n Q .normal a' w') l' a := by
    intro l'
    induction l' with
    | nil => intro a ⟨ρ', h1, h2⟩ w' hw'; exact ⟨rfl, ρ', A, h1, hw', h2⟩
    | cons o l' ih =>
      intro a h
      unfold wpQuietIn at h ⊢
      refine ⟨h.1, ?_⟩
      have h2 := h.2
      split
      · rename_i hw
        rw [if_pos hw] at h2
        exact Oper.quietIn_mono (fun a => ih a) h2
      · rename_i hw
        rw [if_neg hw] at h2
        exact ih _ h2
  exact mono l a hh
end
end Rg
end Go.Vl

namespace Go.Vl
open Go Go.Proofs
namespace Rg
section
variable {P : Program} {m : Nat} {ops : Array Oper} {μ : Rm}
/-- No operation of a row is a defer: by reckoning. -/
def nodB (l : List Oper) : Bool := l.all fun o => match o.op with | .defer _ => false | _ => true
theorem nod_of {l : List Oper} (h : nodB l = true) : ∀ (i : Nat) (o : Oper), l.toArray[i]? = some o → ∀ c, o.op ≠ .defer c := fun i o hi c e => by
  have h1 := List.all_eq_true.1 h o (List.mem_of_getElem? (by simpa using hi))
  simp [e] at h1
theorem upon_tr {o : Oper} {a : Act} {K : Act → World → Prop} {Q : Exit → Act → World → Prop} {r : Result Next} : Oper.uponIn (Fc ⟨none⟩) m P o a K Q r = Oper.uponIn (Fc μ) m P o a K Q r := by
  cases r with
  | ok x w => cases x <;> rfl
  | halt x w => cases x <;> rfl
theorem op_tr {i : Nat} {K : Act → World → Prop} {Q : Exit → Act → World → Prop} {a : Act} {w : World} (hnd : ∀ (i : Nat) (o : Oper), ops[i]? = some o → ∀ c, o.op ≠ .defer c) (h : wpOpIn (Fc ⟨none⟩) m P ops Q i K a w) : wpOpIn (Fc μ) m P ops Q i K a w := by
  unfold wpOpIn at *
  cases hi : ops[i]? with
  | none => simpa [hi] using h
  | some o =>
    simp only [hi] at h ⊢
    split
    · rename_i hw
      simp only [hw, if_true] at h
      unfold Oper.wpIn at *
      rw [Oper.semAt_eq _ _ _ (hnd i o hi)] at h ⊢
      rw [← upon_tr]
      exact h
    · rename_i hw
      simp only [hw] at h
      exact h
theorem any_tr {Q : Exit → Act → World → Prop} (hnd : ∀ (i : Nat) (o : Oper), ops[i]? = some o → ∀ c, o.op ≠ .defer c) : ∀ (fuel : Nat) (listed : Array Bool) (a : Act) (w : World), wpAnyIn (Fc ⟨none⟩) m P .any ops Q fuel listed a w → wpAnyIn (Fc μ) m P .any ops Q fuel listed a w
  | 0, _, _, _, h => h
  | fuel + 1, _, _, _, h => ⟨h.1, fun i hi => op_tr hnd (wpOpIn_mono (fun a w => any_tr hnd fuel _ a w) (h.2 i hi))⟩
/-- What is left of a region in a round: by what is left of it in a function. -/
theorem tc_regt {n : Nat} {Q : Post} {ρ : Env} {A : SP} {id : Nat} {l : List Oper} (hm : P.follows .mixedOrders = true) (hd : nodB l = true)
    (h : ∀ g a w, Agr n ρ a → sat g w A → wpAnyIn (Fc ⟨none⟩) 0 P .any l.toArray (lift g n Q) l.length (Array.replicate l.length false) a w) : @TC μ P n (.region id l.toArray true) Q ρ A := fun g a w ha hs =>
  wpIn_region_any hm (by
    have h1 := h g a { w with drawn := w.drawn + 1 } ha (hs.draw rfl rfl rfl rfl)
    have h2 := any_tr (μ := μ) (nod_of hd) _ _ _ _ h1
    simpa using h2)
end
end Rg
end Go.Vl

namespace Go.Vl
open Go Go.Proofs
namespace Rg
section
variable {P : Program} {n : Nat} {ops : Array Oper} {A S : SP} {ρ : Env} {o : Oper} {Q : Post}
def notCall (o : Oper) : Bool := match o.op with | .call _ => false | _ => true
theorem about_none {o : Oper} (h : notCall o = true) (w : World) (e : Operand → Value) : o.about P w e = none := by
  unfold notCall at h
  unfold Oper.about
  cases ho : o.op <;> first | rfl | (simp [ho] at h)
def TH (P : Program) (n : Nat) (ops : Array Oper) (Q : Post) (S : SP) (fuel : Nat) (listed : Array Bool) (ρ : Env) (A : SP) : Prop :=
  ∀ g a w, Agr n ρ a → sat g w A → wpAnyIn (Fc ⟨none⟩) 0 P .any ops (lift g n Q) fuel listed a w
theorem tc_regh {μ : Rm} {id : Nat} {l : List Oper} (hm : P.follows .mixedOrders = true) (hd : Dr A S) (h : TH P n l.toArray Q S l.length (Array.replicate l.length false) ρ A) (hn : nodB l = true := by kernel_rfl) : @TC μ P n (.region id l.toArray true) Q ρ A :=
  tc_regt hm hn h
theorem th_done {fuel : Nat} {listed : Array Bool} (hr : Region.ready .any ops listed = []) (h : Q .normal ρ A) : TH P n ops Q S fuel listed ρ A := fun g a w ha hs =>
  wpAnyIn_done hr ⟨rfl, ρ, A, ha, hs, h⟩ fuel
theorem th_take {fuel i : Nat} {listed listed' : Array Bool} {v : Value} (hi : ops[i]? = some o) (hs' : Region.noSelect ops = true) (hf : Region.free .any ops listed i = true) (hr : (Region.ready .any ops listed).contains i = true)
    (hl : listed.setIfInBounds i true = listed') (hw : wantE n ops ρ o = true) (hv : OpV P n ρ emp o v) (k : TH P n ops Q S fuel listed' (put n ρ o.dst v) A) (hc : notCall o = true := by rfl) : TH P n ops Q S (fuel + 1) listed ρ A := fun g a w ha hs =>
  wpAnyIn_take rfl hi hs' hf hr (fun c a w h => absurd h.1 (by simp [okE])) ⟨.inl ⟨by rw [want_eq ha, hw], fun w' => by
    rw [ha.eval]
    exact hv ⟨w'.os, w'.tape, w'.output⟩ w' ⟨rfl, rfl, rfl, _, rfl, fun _ _ _ h => by cases h⟩⟩, fun w' => about_none hc w' _⟩ (by rw [hl]; exact k g _ w (ha.put _ _) hs)
def OH (P : Program) (n : Nat) (ops : Array Oper) (Q : Post) (S : SP) (fuel i : Nat) (listed : Array Bool) (ρ : Env) (A : SP) : Prop :=
  ∀ g a w, Agr n ρ a → sat g w A → wpOpIn (Fc ⟨none⟩) 0 P ops (lift g n Q) i (wpAnyIn (Fc ⟨none⟩) 0 P .any ops (lift g n Q) fuel (listed.setIfInBounds i true)) a w
theorem th_all {fuel : Nat} {listed : Array Bool} {rs : List Nat} (hr : Region.ready .any ops listed = rs) (hne : rs ≠ []) (h : ∀ i ∈ rs, OH P n ops Q S fuel i listed ρ A) : TH P n ops Q S (fuel + 1) listed ρ A := fun g a w ha hs =>
  wpAnyIn_all hr hne fun i hi => h i hi g a w ha hs
theorem th_one {fuel i : Nat} {listed : Array Bool} (hr : Region.ready .any ops listed = [i]) (h : OH P n ops Q S fuel i listed ρ A) : TH P n ops Q S (fuel + 1) listed ρ A := th_all hr (by simp) (by simpa using h)
theorem th_two {fuel i j : Nat} {listed : Array Bool} (hr : Region.ready .any ops listed = [i, j]) (h : OH P n ops Q S fuel i listed ρ A) (h' : OH P n ops Q S fuel j listed ρ A) : TH P n ops Q S (fuel + 1) listed ρ A :=
  th_all hr (by simp) (by simpa using ⟨h, h'⟩)
section
variable {fuel i : Nat} {listed listed' : Array Bool}
theorem oh_v {v : Value} (hi : ops[i]? = some o) (hl : listed.setIfInBounds i true = listed') (hw : wantE n ops ρ o = true) (h : OpV P n ρ A o v) (k : TH P n ops Q S fuel listed' (put n ρ o.dst v) A) : OH P n ops Q S fuel i listed ρ A := fun g a w ha hs => by
  subst hl
  unfold wpOpIn
  simp only [hi, want_eq ha, hw, if_true]
  refine ⟨fun _ _ => trivial, ?_⟩
  rw [ha.eval, sem_eq (h g w hs) (by simp)]
  exact k g _ w (ha.put _ _) hs
theorem oh_x {R : Value → SP → Prop} (hi : ops[i]? = some o) (hl : listed.setIfInBounds i true = listed') (hw : wantE n ops ρ o = true) (h : OpX P n ρ A o R) (k : ∀ v B, R v B → Dr B S ∧ TH P n ops Q S fuel listed' (put n ρ o.dst v) B) : OH P n ops Q S fuel i listed ρ A := fun g a w ha hs => by
  subst hl
  unfold wpOpIn
  simp only [hi, want_eq ha, hw, if_true]
  refine ⟨fun _ _ => trivial, ?_⟩
  obtain ⟨v, w', B, hr, hb, hR⟩ := h g w hs
  rw [ha.eval, sem_eq hr (by simp)]
  exact (k v B hR).2 g _ w' (ha.put _ _) hb
theorem oh_c {R : Value → SP → Prop} (hi : ops[i]? = some o) (hl : listed.setIfInBounds i true = listed') (hw : wantE n ops ρ o = true) (h : OpC P n ρ A o R) (k : ∀ v B, R v B → Dr B S ∧ TH P n ops Q S fuel listed' (put n ρ o.dst v) B) : OH P n ops Q S fuel i listed ρ A := fun g a w ha hs => by
  subst hl
  unfold wpOpIn
  simp only [hi, want_eq ha, hw, if_true]
  refine ⟨fun _ _ => trivial, ?_⟩
  obtain ⟨f, args, w', hr, hc⟩ := h g w hs
  rw [ha.eval, sem_eq hr (by simp)]
  refine ⟨fun h => (by cases h), ?_⟩
  have hc' : CallsIn Fence.wide (0 - 1) P f args w' fun e w'' => ∃ v B, e = .returned v ∧ R v B ∧ sat g w'' B := callsIn_wide.2 hc
  refine CallsIn.mono (show CallsIn (Fc ⟨none⟩) (0 - 1) P f args w' _ from hc') fun e w'' ⟨v, B, he, hR, hb⟩ => ?_
  subst he
  exact (k v B hR).2 g _ w'' (ha.put _ _) hb
theorem oh_u {B : SP} (hi : ops[i]? = some o) (hl : listed.setIfInBounds i true = listed') (hw : wantE n ops ρ o = true) (h : OpU P n ρ A o B) (hd : Dr B S) (k : TH P n ops Q S fuel listed' (put n ρ o.dst undef) B) : OH P n ops Q S fuel i listed ρ A := fun g a w ha hs => by
  subst hl
  unfold wpOpIn
  simp only [hi, want_eq ha, hw, if_true]
  refine ⟨fun _ _ => trivial, ?_⟩
  obtain ⟨w', hr, hb⟩ := h g w hs
  rw [ha.eval, sem_eq hr (by simp)]
  exact k g _ w' (ha.put _ _) hb
end
theorem th_env {fuel : Nat} {listed : Array Bool} {d : Nat} {v : Value} (h : ρ d = v) (k : TH P n ops Q S fuel listed (upd ρ d v) A) : TH P n ops Q S fuel listed ρ A := by
  rw [← env_set h] at k; exact k
end
end Rg
end Go.Vl

namespace Go.Vl
open Go Go.Proofs
def rvl (L : List (Nat × List Nat)) (vs : List Value) (k : Nat) : Value := .agg #[.int .i64 ((L.getD k (0, [])).1 : Nat), vs.getD k (.slice none 0 0)]
theorem kcl_at : ∀ {L : List (Nat × List Nat)} {vs : List Value} {k : Nat}, vs.length = L.length → k < L.length → ((kcl L vs).drop (k * 2)).take 2 = [.int .i64 ((L.getD k (0, [])).1 : Nat), vs.getD k (.slice none 0 0)]
  | [], [], _, _, h => by simp at h
  | x :: l, v :: vs, 0, _, _ => rfl
  | x :: l, v :: vs, k + 1, h, hk => by
    rw [show (k + 1) * 2 = k * 2 + 1 + 1 by omega]
    show ((kcl l vs).drop (k * 2)).take 2 = _
    rw [kcl_at (by simpa using h) (by simpa using hk)]; rfl
end Go.Vl

namespace Go.Vl
open Go Go.Proofs
section
variable {at_ sz : Nat} {s s1 s2 s3 : DevS} {L : List (Nat × List Nat)} {e : Int}
end
def sumL (L : List (Nat × List Nat)) : Nat := (L.map fun x => x.2.length).sum
theorem sumL_cons (x : Nat × List Nat) (L : List (Nat × List Nat)) : sumL (x :: L) = x.2.length + sumL L := by unfold sumL; rw [List.map_cons, List.sum_cons]
/-- What a record that was read is like. -/
def RecOk (n at_ sz : Nat) (x : Nat × List Nat) : Prop := mayX n at_ sz ((x.1 : Int), ((x.2.length : Nat) : Int)) = true ∧ ∀ b ∈ x.2, b < 256
theorem parts_rs : ∀ {vs : List Value} {ls : List (List Nat)} {k : Nat} (_ : vs.length = ls.length) (h : k < ls.length) {b : Option Addr} {c : Nat}, vs.getD k (.slice none 0 0) = .slice b (ls[k]).length c → ∀ A : SP, Rs (A * Parts vs ls) b (bys ls[k])
  | v :: vs, x :: ls, 0, _, _, b, c, he, A => by
    have e : Parts (v :: vs) (x :: ls) = Parts vs ls * Sl 1 v x.length (bys x) := rfl
    have e2 : v = .slice b x.length c := he
    rw [e, e2, ← star_assoc]; exact rs_sl
  | v :: vs, x :: ls, k + 1, h, hk, b, c, he, A => by
    have e : Parts (v :: vs) (x :: ls) = Parts vs ls * Sl 1 v x.length (bys x) := rfl
    rw [e, ← star_assoc]
    exact (parts_rs (vs := vs) (ls := ls) (k := k) (by simpa using h) (by simpa using hk) he A).left
  | [], x :: ls, _, h, _, _, _, _, _ => by simp at h
  | _, [], _, _, h, _, _, _, _ => by simp at h
theorem parts_getD : ∀ {vs : List Value} {L : List (Nat × List Nat)} {X : SP} {g : Gh} {w : World}, vs.length = L.length → sat g w (X * Parts vs (L.map (·.2))) → ∀ k, k < L.length → ∃ b c, vs.getD k (.slice none 0 0) = .slice b (L.getD k (0, [])).2.length c ∧ (L.getD k (0, [])).2.length ≤ c
  | [], [], _, _, _, _, _ => fun k hk => by simp at hk
  | v :: vs, x :: L, X, g, w, hl, h => by
    have e : Parts (v :: vs) ((x :: L).map (·.2)) = Parts vs (L.map (·.2)) * Sl 1 v x.2.length (bys x.2) := rfl
    rw [e, ← star_assoc] at h
    intro k hk
    cases k with
    | zero =>
      obtain ⟨a, cap, h1, h2, _⟩ := sl_have h
      exact ⟨a, cap, h1, h2⟩
    | succ k => exact parts_getD (by simpa using hl) h.left k (by simpa using hk)
theorem parts_rsL {vs : List Value} {L : List (Nat × List Nat)} {k : Nat} (h : vs.length = L.length) (hk : k < L.length) {b : Option Addr} {c : Nat} (he : vs.getD k (.slice none 0 0) = .slice b (L.getD k (0, [])).2.length c) (A : SP) : Rs (A * Parts vs (L.map (·.2))) b (bys (L.getD k (0, [])).2) := by
  have e1 : L.getD k (0, []) = L[k] := by rw [List.getD_eq_getElem?_getD, List.getElem?_eq_getElem hk]; rfl
  have e2 : (L.map (·.2))[k]'(by rw [List.length_map]; exact hk) = L[k].2 := by rw [List.getElem_map]
  rw [e1] at he ⊢
  rw [← e2] at he ⊢
  exact parts_rs (by rw [List.length_map]; exact h) (by rw [List.length_map]; exact hk) he A
theorem getD_mem {L : List (Nat × List Nat)} {k : Nat} (hk : k < L.length) : L.getD k (0, []) ∈ L := by
  rw [List.getD_eq_getElem?_getD, List.getElem?_eq_getElem hk]; exact List.getElem_mem hk
theorem fl1_wf {p : Int} {s : DevS} (hw : WfD s) : WfD (fl1 p s).2 := by
  unfold fl1
  split
  · exact hw
  · exact doneS_wf (flushS_wf hw)
theorem sto_wf {p : Int} {b : List Nat} {s : DevS} (hw : WfD s) (hb : ∀ x ∈ b, x < 256) (hr : Room b.length s) : WfD (sto p b s).2 := by
  unfold sto
  split
  · exact hw
  · exact (storeF_room b.length (r := 0) rfl hw hb (fun l hl => by have := hr l hl; omega)).2
theorem Records_w {A R : SP} {C : SP → SP} {d : Nat} {s : DevS} (hc : Ct A (Dev d s) R C := by repeat (first | with_reducible exact ct_here | apply ct_left)) {bl at_ sz : Nat} (hl : Has R bl (cl (lcs11 d at_ sz) 109) := by (repeat (first | assumption | with_reducible exact has_here | with_reducible exact has_pt | apply has_left))) (hlw : LogW (s.ls.length * 64) at_ sz := by assumption) {L : List (Nat × List Nat)} {e : Int} (hX : recordsS at_ sz s = (L, e)) : Fn Try.prog 37 #[.pointer (some ⟨bl, 0, none⟩)] A (fun r B => ∃ a2 c2 vs, r = .tuple #[.slice a2 L.length c2, .int .i64 e] ∧ L.length ≤ c2 ∧ vs.length = L.length ∧ B = C (Dev d s) * Parts vs (L.map (·.2)) * Sl 2 (.slice a2 L.length c2) L.length (kcl L vs)) := by
  have h := Records_c hc hl hlw
  rw [hX] at h
  exact h
end Go.Vl

namespace Go.Vl
open Go Go.Proofs
/-! ### What a record reads -/
def oldsL (I : List Nat) (l : List (Int × Int)) : List (Nat × List Nat) := l.map fun x => (x.1.toNat, (I.drop x.1.toNat).take x.2.toNat)
theorem records_none {at_ sz : Nat} {s : DevS} (hO : s.off = false) (hlw : LogW (s.ls.length * 64) at_ sz) (h1 : nm (((imgS s).drop at_).take 8) = 0) : recordsS at_ sz s = ([], 0) := by
  have ht := hlw.top; have hsz := hlw.s; have ham := hlw.am
  unfold recordsS
  rw [if_neg (by rw [hO]; decide), word_in hO (by omega) (by omega), h1]; rfl
/-! ### A Write -/
def wrI1 (at_ : Nat) (I : List Nat) (l : List (Int × Int)) : List Nat := spl I (at_ + 64) (recsB I l)
def wrI (at_ : Nat) (I : List Nat) (l : List (Int × Int)) : List Nat := spl (wrI1 at_ I l) at_ (le 8 l.length)
end Go.Vl

namespace Go.Vl
open Go Go.Proofs
/-- A line is flushed, up to its last content. -/
def Mkd (j : Nat) (s : DevS) : Prop := ∀ l, s.ls[j]? = some l → l.mark = (l.st.length : Int) - 1
/-! ### The bytes of extents -/
def InX (L : List (Nat × List Nat)) (i : Nat) : Prop := ∃ x ∈ L, x.1 ≤ i ∧ i < x.1 + x.2.length
/-- What a line may hold: outside the extents, what the image has. -/
def XU (L : List (Nat × List Nat)) (I : List Nat) (q : Nat) (c : List Nat) : Prop := ∀ j, j < 64 → ¬ InX L (q * 64 + j) → c[j]? = I[q * 64 + j]?
/-- Outside the extents all is as the image has it. -/
structure AS (L : List (Nat × List Nat)) (I : List Nat) (s : DevS) : Prop where
  wf : WfD s
  len : I.length = s.ls.length * 64
  poss : Poss (XU L I) s
  one : ∀ (q : Nat) (l : LineS), (∀ i, InX L i → i / 64 ≠ q) → s.ls[q]? = some l → l.st.length = 1
theorem AS.img {L : List (Nat × List Nat)} {I : List Nat} {s : DevS} (h : AS L I s) {i : Nat} (hi : ¬ InX L i) : (imgS s)[i]? = I[i]? := by
  have hil := imgS_len h.wf
  have hl := h.len
  rcases Nat.lt_or_ge i (s.ls.length * 64) with h1 | h1
  · have := poss_img h.wf h.poss (q := i / 64) (by omega) (i % 64) (by omega) (by rw [show i / 64 * 64 + i % 64 = i by omega]; exact hi)
    rw [chunk_at (by omega), show i / 64 * 64 + i % 64 = i by omega] at this
    exact this
  · rw [List.getElem?_eq_none (by omega), List.getElem?_eq_none (by omega)]
theorem AS.sub {L : List (Nat × List Nat)} {I : List Nat} {s : DevS} (h : AS L I s) {p m : Nat} (hd : ∀ i, p ≤ i → i < p + m → ¬ InX L i) : ((imgS s).drop p).take m = (I.drop p).take m := by
  apply List.ext_getElem?
  intro i
  rw [List.getElem?_take, List.getElem?_take]
  split
  · rw [List.getElem?_drop, List.getElem?_drop]; exact h.img (hd _ (by omega) (by omega))
  · rfl
/-- Some records are back. -/
structure Got (D : List (Nat × List Nat)) (I : List Nat) (s : DevS) : Prop where
  img : ∀ i, InX D i → (imgS s)[i]? = I[i]?
  mkd : ∀ i, InX D i → Mkd (i / 64) s
end Go.Vl

namespace Go.Vl
open Go Go.Proofs
/-- A book beside a device on which a loss of power is planned. -/
def armP (after : Int) (keep : List Int) (Q : PlS) : PlS := { Q with s := { Q.s with arms := [(after, keep)], cnt := Q.s.ops } }
/-- What one step does to both. -/
structure ArmStep (after : Int) (keep : List Int) (P' : Bool × PlS) (Q : PlS) (Q' : Bool × PlS) : Prop where
  ok : Q'.1 = true
  ops : P'.2.s.ops = Q'.2.s.ops
  near : Q'.2.s.ops = Q.s.ops ∨ Q'.2.s.ops = Q.s.ops + 1
  on : Q'.2.s.ops ≠ after → P' = (true, armP after keep Q'.2)
  gone : Q'.2.s.ops = after → P'.1 = false ∧ P'.2.s.off = true ∧ P'.2.s.arms = [] ∧ P'.2.s.ls = (goesS keep Q'.2.s).ls
theorem WfP.mono {r r' : Nat} {P : PlS} (h : WfP r P) (hr : r' ≤ r) : WfP r' P := ⟨h.pos, h.top, h.ls, h.seen, h.held, h.last, h.sure, fun l hl => by have := h.room l hl; omega, fun l hl => by have := h.hroom l hl; omega⟩
end Go.Vl

namespace Go.Vl
open Go Go.Proofs
def rise (n : Nat) : List Nat := (List.range n).map fun i => i % 256
/-- The image: bytes that rise, eight zeros at 128; so far k of them. -/
def mdK (k : Nat) : List Nat := spl (rise 1024) 128 (List.replicate k 0)
def mdI : List Nat := mdK 8
def mds : DevS := fromS 16 mdI
/-- An image with a log of these records. -/
def LogI (sz : Nat) (l : List (Int × Int)) (I : List Nat) : Prop := nm ((I.drop 128).take 8) = l.length ∧ (I.drop 192).take (needN l) = recsB mdI l ∧ I.length = 1024 ∧ Out 128 (128 + sz) I mdI
end Go.Vl

namespace Go.Vl
open Go Go.Proofs
def NoL (A : SP) (v : Value) : Prop := v = .pointer none ∨ ∃ b, v = .pointer (some ⟨b, 0, none⟩) ∧ Has A b (cl [.pointer none, .int .i64 0, .int .i64 0] 109)
theorem NoL.left {A X : SP} {v : Value} (h : NoL A v) : NoL (A * X) v := h.imp id fun ⟨b, e, hc⟩ => ⟨b, e, has_left hc⟩
attribute [local irreducible] crk crL crc Sl pt ro Dev imgS recS readS recsF rdW rdO rkT Parts rvl recordsS mdI mdK rise mds writeS rollS
end Go.Vl

namespace Go.Vl
open Go Go.Proofs
def lst (xs : List Int) (i : Nat) : List (Int × Int) := (xs.take i).map fun x => ((600 : Int), 1 + x % 90)
theorem xcl_nil : xcl [] = [] := rfl
end Go.Vl

namespace Go.Vl
open Go Go.Proofs
/-- An extent, brought to where it may be. -/
def brN (x : Int × Int) : Int := 1 + (IntKind.i64.wrap (x.2 - 1)) % 40
def brX (x : Int × Int) : Int × Int := (if 256 ≤ x.1 ∨ x.1 < 0 then 512 + x.1 % (512 - brN x + 1) else 64 + x.1 % (64 - brN x + 1), brN x)
def brL (es : List (Int × Int)) (i : Nat) : List (Int × Int) := (es.take i).map brX
def fiveX (k : Nat) : List (Int × Int) := (List.range k).map fun i : Nat => ((64 : Int), 1 + (i : Int))
end Go.Vl

namespace Go.Vl
open Go Go.Proofs
/-- The bytes of records can be read. -/
def PsR (A : SP) (L : List (Nat × List Nat)) (vs : List Value) : Prop := ∀ k, k < L.length → ∃ b c, vs.getD k (.slice none 0 0) = .slice b (L.getD k (0, [])).2.length c ∧ Rs A b (bys (L.getD k (0, [])).2) ∧ (L.getD k (0, [])).2.length ≤ 4294967296
theorem psr_of {A : SP} {L : List (Nat × List Nat)} {vs : List Value} (h1 : vs.length = L.length) (h2 : ∀ k, k < L.length → ∃ b c, vs.getD k (.slice none 0 0) = .slice b (L.getD k (0, [])).2.length c ∧ (L.getD k (0, [])).2.length ≤ c) (h3 : ∀ x ∈ L, x.2.length ≤ 4294967296) : PsR (A * Parts vs (L.map (·.2))) L vs := fun k hk => by
  obtain ⟨b, c, e, _⟩ := h2 k hk
  exact ⟨b, c, e, parts_rsL h1 hk e A, h3 _ (getD_mem hk)⟩
theorem PsR.left {A X : SP} {L : List (Nat × List Nat)} {vs : List Value} (h : PsR A L vs) : PsR (A * X) L vs := fun k hk => by
  obtain ⟨b, c, e, hr, hl⟩ := h k hk; exact ⟨b, c, e, hr.left, hl⟩
theorem kcl_nil : kcl [] [] = [] := rfl
end Go.Vl

namespace Go.Vl
open Go Go.Proofs
def kpR (kp : List Int) (i : Nat) : List Int := (kp.take i).map fun x => x % 1000
theorem image_w {A R : SP} {C : SP → SP} {d : Nat} {s : DevS} (I : List Nat) (hl : s.ls.length = 16) (hi : imgS s = I) (hc : Ct A (Dev d s) R C := by repeat (first | with_reducible exact ct_here | apply ct_left)) : Fn Try.prog 15 #[.pointer (some ⟨d, 0, none⟩)] A (fun r B => ∃ a c, r = .slice a 1024 c ∧ 1024 ≤ c ∧ B = A * Sl 1 (.slice a 1024 c) 1024 (bys I)) := by
  have h := Image_c hc
  rw [hl, hi] at h
  exact h
theorem eq_take {A : SP} {a : Option Addr} {n : Nat} {I : List Nat} (h : Rs A a (bys I)) : Rs A a (bys (I.take n)) := by
  have h2 := h.sub n
  rwa [bys_takeG] at h2
end Go.Vl

namespace Go.Vl
open Go Go.Proofs
theorem flatG {α : Type} {f : α → List Value} : ∀ {Cs : List (List Value)} {xs : List α} (_ : Cs.length = xs.length) (_ : ∀ i (h : i < xs.length) (h' : i < Cs.length), Cs[i] = f xs[i]), Cs.flatten = xs.flatMap f
  | [], [], _, _ => rfl
  | c :: Cs, x :: xs, hl, h => by
    have h0 := h 0 (by simp) (by simp)
    simp only [List.getElem_cons_zero] at h0
    rw [List.flatten_cons, h0, flatG (f := f) (Cs := Cs) (xs := xs) (by simpa using hl) (fun i hi hi' => h (i + 1) (by simpa using hi) (by simpa using hi')), List.flatMap_cons]
theorem four_ofG {α : Type} : ∀ {l : List α}, l.length = 4 → ∃ a b c d, l = [a, b, c, d]
  | [a, b, c, d], _ => ⟨a, b, c, d, rfl⟩
def PXts (A : SP) (cs : List Value) (es : List (Int × Int)) : Prop := ∃ a c, cs = [.slice a es.length c] ∧ es.length ≤ c ∧ es.length ≤ 8796093022208 ∧ Rs A a (xcl es) ∧ ∀ x ∈ es, XW x
/-- One arm of a story. -/
structure Ar1 where
  af : Int
  a : Option Addr
  c : Nat
  kp : List Int
def Ar1.cells (x : Ar1) : List Value := [.int .i64 x.af, .slice x.a x.kp.length x.c]
def PArs (A : SP) (cs : List Value) (p : List Value × List (Int × List Int)) : Prop := ∃ a c, cs = [.slice a p.2.length c] ∧ p.2.length ≤ c ∧ p.2.length ≤ 4398046511104 ∧ RdA A a p.1 p.2 ∧ ∀ x ∈ p.2, (-9223372036854775808 ≤ x.1 ∧ x.1 ≤ 9223372036854775807) ∧ x.2.length ≤ 17592186043904 ∧ ∀ k ∈ x.2, -9223372036854775808 ≤ k ∧ k ≤ 9223372036854775807
/-- One change of a story. -/
structure Chg where
  q : Int
  p : Int
  a : Option Addr
  c : Nat
  b : List Nat
  fl : Bool
  fe : Bool
def Chg.cells (x : Chg) : List Value := [.int .i64 x.q, .int .i64 x.p, .slice x.a x.b.length x.c, .bool x.fl, .bool x.fe]
structure ChgW (A : SP) (x : Chg) : Prop where
  q : (-9223372036854775808 ≤ x.q ∧ x.q ≤ 9223372036854775807)
  p : (-9223372036854775808 ≤ x.p ∧ x.p ≤ 9223372036854775807)
  cap : x.b.length ≤ x.c
  len : x.b.length ≤ 140737488351232
  rs : Rs A x.a (bys x.b)
  by_ : ∀ y ∈ x.b, y < 256
theorem ChgW.left {A X : SP} {x : Chg} (h : ChgW A x) : ChgW (A * X) x := ⟨h.q, h.p, h.cap, h.len, h.rs.left, h.by_⟩
def chl (l : List Chg) : List Value := l.flatMap Chg.cells
def PChs (A : SP) (cs : List Value) (l : List Chg) : Prop := ∃ a c, cs = [.slice a l.length c] ∧ l.length ≤ c ∧ l.length ≤ 2932031007403 ∧ Rs A a (chl l) ∧ ∀ x ∈ l, ChgW A x
/-- A story. -/
structure Stx where
  es : List (Int × Int)
  ch : List Chg
  kvs : List Value
  ars : List (Int × List Int)
  lg : Bool
def PSto (A : SP) (cs : List Value) (t : Stx) : Prop := ∃ v1 v2 v3, cs = [v1, v2, v3, .bool t.lg] ∧ PXts A [v1] t.es ∧ PChs A [v2] t.ch ∧ PArs A [v3] (t.kvs, t.ars)
end Go.Vl

namespace Go.Vl
open Go Go.Proofs
/-! ### One operation of a story -/
/-! ### The state behind a Write, changes, and losses -/
/-- What a story's extents are, brought to where they may be. -/
def XIn (x : Int × Int) : Prop := 1 ≤ x.2 ∧ x.2 ≤ 40 ∧ ((64 ≤ x.1 ∧ x.1 + x.2 ≤ 128) ∨ (512 ≤ x.1 ∧ x.1 + x.2 ≤ 1024))
structure CSt (X : List (Int × Int)) (I : List Nat) (r : Nat) (s : DevS) : Prop where
  ast : AS (oldsL mdI X) I s
  len : s.ls.length = 16
  room : Room r s
/-- The log is empty again. -/
structure Clr (I : List Nat) (s : DevS) : Prop where
  wf : WfD s
  cln : Cln s
  img : imgS s = spl I 128 (le 8 0)
  len : s.ls.length = 16
structure Trn (X : List (Int × Int)) (I : List Nat) (s : DevS) : Prop where
  room : Room 385 s
  ast : (X ≠ [] ∧ AS (oldsL mdI X) I s ∧ s.ls.length = 16) ∨ Clr I s
end Go.Vl

namespace Go.Vl
open Go Go.Proofs
def Ar1.pr (x : Ar1) : Int × List Int := (x.af, x.kp)
def ownR (x : Ar1) : SP := Sl 1 (.slice x.a x.kp.length x.c) x.kp.length (ints x.kp)
/-- An arm, as it may be. -/
def brA (x : Int × List Int) : Int × List Int := (1 + x.1 % 60, x.2.map fun k => k % 1000)
structure ArP (xs : List Ar1) (ars : List (Int × List Int)) : Prop where
  mp : xs.map Ar1.pr = ars.map brA
  cp : ∀ x ∈ xs, x.kp.length ≤ x.c
def ArB (a : Option Addr) (c n : Nat) (xs : List Ar1) : SP := Sl 2 (.slice a n c) n (xs.flatMap Ar1.cells) * Bs ownR xs
end Go.Vl

namespace Go.Vl
open Go Go.Proofs
/-- A change, read: of any length. -/
structure ChgV (A : SP) (x : Chg) : Prop where
  q : -9223372036854775808 ≤ x.q ∧ x.q ≤ 9223372036854775807
  p : -9223372036854775808 ≤ x.p ∧ x.p ≤ 9223372036854775807
  cap : x.b.length ≤ x.c
  rs : Rs A x.a (bys x.b)
  by_ : ∀ y ∈ x.b, y < 256
theorem ChgV.left {A X : SP} {x : Chg} (h : ChgV A x) : ChgV (A * X) x := ⟨h.q, h.p, h.cap, h.rs.left, h.by_⟩
end Go.Vl

namespace Go.Vl
open Go Go.Proofs
def ArOk (ars : List (Int × List Int)) : Prop := ∀ x ∈ ars, (-9223372036854775808 ≤ x.1 ∧ x.1 ≤ 9223372036854775807) ∧ x.2.length ≤ 1099511627776 ∧ ∀ k ∈ x.2, -9223372036854775808 ≤ k ∧ k ≤ 9223372036854775807
end Go.Vl

namespace Go.Vl
open Go Go.Proofs
def PXtU (A : SP) (cs : List Value) (es : List (Int × Int)) : Prop := ∃ a c, cs = [.slice a es.length c] ∧ es.length ≤ c ∧ Rs A a (xcl es) ∧ ∀ x ∈ es, XW x
def PArU (A : SP) (cs : List Value) (p : List Value × List (Int × List Int)) : Prop := ∃ a c, cs = [.slice a p.2.length c] ∧ p.2.length ≤ c ∧ RdA A a p.1 p.2 ∧ ∀ x ∈ p.2, (-9223372036854775808 ≤ x.1 ∧ x.1 ≤ 9223372036854775807) ∧ ∀ k ∈ x.2, -9223372036854775808 ≤ k ∧ k ≤ 9223372036854775807
def PChU (A : SP) (cs : List Value) (l : List Chg) : Prop := ∃ a c, cs = [.slice a l.length c] ∧ l.length ≤ c ∧ Rs A a (chl l) ∧ ∀ x ∈ l, ChgV A x
def PStU (A : SP) (cs : List Value) (t : Stx) : Prop := ∃ v1 v2 v3, cs = [v1, v2, v3, .bool t.lg] ∧ PXtU A [v1] t.es ∧ PChU A [v2] t.ch ∧ PArU A [v3] (t.kvs, t.ars)
def Stx.sz (t : Stx) : Nat := t.es.length + (t.ch.map fun x => x.b.length + 1).sum + (t.ars.map fun x => x.2.length + 1).sum
end Go.Vl

namespace Go.Vl
open Go Go.Proofs
/-- A slice v of n elements of k cells, and what it was grown to, v', of m: within one block, or apart. -/
def GrK (k : Nat) (v : Value) (n : Nat) (xs : List Value) (v' : Value) (m : Nat) (ys : List Value) : SP := fun h =>
  (∃ a c, v = .slice a n c ∧ v' = .slice a m c ∧ n ≤ m ∧ xs = ys.take (n * k) ∧ Sl k v' m ys h) ∨ (Sl k v n xs * Sl k v' m ys) h
/-! ### Two lists in turns -/
def ilv {α : Type} : List α → List α → List α
  | x :: xs, y :: ys => x :: y :: ilv xs ys
  | _, _ => []
end Go.Vl

namespace Go.Vl
open Go Go.Proofs
def pc (x : Int × Value) : List Value := [.int .i64 x.1, x.2]
def pcl (l : List (Int × Value)) : List Value := l.flatMap pc
def rpl (n : Nat) (k : Int) : List (Int × Value) := List.replicate n (k, .slice none 0 0)
def kz : List (Nat × List Nat) → List Value → List (Int × Value)
  | x :: l, v :: vs => ((x.1 : Nat), v) :: kz l vs
  | _, _ => []
end Go.Vl

namespace Go.Vl
open Go Go.Proofs
/-- The numbers from q on. -/
def lnK (q k : Nat) : List Int := (List.range k).map fun j => ((q + j : Nat) : Int)
end Go.Vl

namespace Go.Vl
open Go Go.Proofs
theorem xcl_at0 {l : List (Int × Int)} {j : Nat} (h : j < l.length) : (xcl l)[j * 2 + 0]? = some (.int .i64 l[j].1) := fm_atj (f := xcs) (k := 2) (fun _ _ => rfl) h (by decide) rfl
theorem xcl_at1 {l : List (Int × Int)} {j : Nat} (h : j < l.length) : (xcl l)[j * 2 + 1]? = some (.int .i64 l[j].2) := fm_atj (f := xcs) (k := 2) (fun _ _ => rfl) h (by decide) rfl
end Go.Vl

namespace Go.Vl
open Go Go.Proofs
def sizedL (n : Nat) (xs : List Nat) : List Nat := xs.take n ++ List.replicate (n - xs.length) 0
theorem fil_set' {L : List Nat} {n i : Nat} (h : i < L.length) (hn : i < n) : (L.take i ++ List.replicate (n - i) 0).set i L[i] = L.take (i + 1) ++ List.replicate (n - (i + 1)) 0 := by
  have e : n - i = (n - (i + 1)) + 1 := by omega
  have hl : (L.take i).length = i := by rw [List.length_take]; omega
  rw [List.set_append_right _ _ (by omega), hl, Nat.sub_self, e, List.replicate_succ, List.set_cons_zero, List.take_succ_eq_append_getElem h, List.append_assoc]; rfl
attribute [local irreducible] Sl pt ro Dev imgS fromS
theorem Sized_c {A : SP} {a : Option Addr} {c m n : Nat} {xs : List Nat} (hr : Rs A a (bys xs) := by repeat (first | assumption | with_reducible exact rs_sl | with_reducible exact rs_pt0 | exact rs_none | apply Rs.left)) (hm : xs.length = m := by first | assumption | rfl) (hb : ∀ x ∈ xs, x < 256 := by assumption) (hn : n ≤ 17592186044416 := by omega) (hl : m ≤ 140737488351232 := by omega) :
    Fn Try.prog 17 #[.slice a m c, .int .i64 (n : Nat)] (A) (fun r B => ∃ a c, r = .slice a n c ∧ n ≤ c ∧ B = A * Sl 1 (.slice a n c) n (bys (sizedL n xs))) := by
  refine fn_enterW (args := [.slice a m c, .int .i64 (n : Nat)]) Try.func17 rfl Try.ntmps17 (by simp) ?_; refine sr ?_; refine tla ?_; refine nq ?_; refine sr ?_; refine tlm ?_; refine tl_x rfl (o_makeSlice (len := n) (cap := n) Try.underlying22 sz5 by5 z5 rfl rfl rfl (by omega) (by omega) (by omega)) ?_; rintro _ _ ⟨b8, rfl, rfl⟩; refine tl_pre (fun _ _ h => sl_new (k := 1) (n := n) (cap := n) (xs := bys (List.replicate n 0)) h (by omega) (by simp) (by rw [Nat.mul_one, List.take_of_length_le (by simp)]; unfold bys; rw [List.map_replicate]; rfl)) ?_; refine tla ?_; refine nq ?_; refine tc_seq ?_; refine sr ?_; refine tla ?_; refine nq ?_; refine tc_block ?_; refine tc_loop (fun kk ρ BB => ∃ (i : Nat), (i ≤ n) ∧ (i ≤ m) ∧ kk = n - i ∧ ρ 6 = .int .i64 (i : Nat) ∧ ρ 0 = .slice a m c ∧ ρ 1 = .int .i64 (n : Nat) ∧ ρ 5 = .slice (some ⟨b8, 0, none⟩) n n ∧ BB = A * Sl 1 (.slice (some ⟨b8, 0, none⟩) n n) n (bys (xs.take i ++ List.replicate (n - i) 0))) (m := n - (0)) ?_ ?_
  · exact ⟨0, by omega, by omega, rfl, rfl, rfl, rfl, rfl, rfl⟩
  · intro k ρ B hI
    obtain ⟨i, hp0, hp1, hkk1, hE6, hE0, hE1, hE5, rfl⟩ := hI
    refine tc_env (d := 6) hE6 ?_; refine tc_env (d := 0) hE0 ?_; refine tc_env (d := 1) hE1 ?_; refine tc_env (d := 5) hE5 ?_
    clear hE6 hE0 hE1 hE5
    refine tc_seq ?_; refine sr ?_; refine tlm ?_; refine tlm ?_; refine tv (o_lss rfl rfl) ?_; refine tlm ?_; refine tl_bool (d := 12) rfl (fun h => ?_) (fun h => ?_)
    · have hin : i < n := by simpa using h
      refine tlm ?_; refine tlm ?_; refine tv (o_len Try.underlying22 rfl) ?_; refine tv (o_lss rfl rfl) ?_; refine tv (o_pick_t rfl (by conv => lhs; whnf)) ?_; refine nq ?_; refine tc_cond rfl (fun h => ?_) (fun h => ?_)
      · have hi : i < xs.length := by simp at h; omega
        have hx8 := hb _ (List.getElem_mem hi)
        refine tc_skip ?_; refine q_then_n ?_; refine tc_seq ?_; refine tc_block ?_; refine tc_reg ?_; refine tlm ?_; refine tlm ?_; refine tlm ?_; refine tlm ?_; refine tv (o_ixP1 Try.underlying22 sz5 rfl rfl (by first | omega | (simp only [bys_length, ints_length, wds_length, bos_length, List.length_append, List.length_take, List.length_drop, List.length_singleton]; omega)) (by repeat (first | exact nn_some | with_reducible exact nn_sl (by decide) | exact nn_rs (by assumption) (fun _ => by first | omega | (simp only [bys_length, ints_length, wds_length, bos_length, List.length_append, List.length_take, List.length_drop, List.length_singleton]; omega)) | apply Nn.left))) ?_; refine tv (o_ldP p5 rfl (by repeat (first | assumption | with_reducible exact rs_sl | with_reducible exact rs_pt0 | exact rs_none | apply Rs.left)) (by first | assumption | exact bys_at (by omega) | exact ints_at (by omega) | exact wds_at (by omega) | exact bos_at (by omega) | rfl)) ?_; refine tv (o_ixP1 Try.underlying22 sz5 rfl rfl (by first | omega | (simp only [bys_length, ints_length, wds_length, bos_length, List.length_append, List.length_take, List.length_drop, List.length_singleton]; omega)) (by repeat (first | exact nn_some | with_reducible exact nn_sl (by decide) | exact nn_rs (by assumption) (fun _ => by first | omega | (simp only [bys_length, ints_length, wds_length, bos_length, List.length_append, List.length_take, List.length_drop, List.length_singleton]; omega)) | apply Nn.left))) ?_
        refine tl_u rfl (o_stP sz5 rfl rfl rfl (by repeat (first | with_reducible exact ct_here | apply ct_left)) (by omega) (by first | exact bys_set _ _ _ | exact ints_set _ _ _ | exact wds_set' _ _ _ | exact bos_set _ _ _ | rfl)) ?_; refine tl_nil ?_; refine q_block_n (q_then_n ?_); refine tc_reg ?_; refine tlm ?_; refine tv (by first | exact o_addI rfl rfl (by omega) | exact o_add rfl rfl) ?_; refine tla ?_; refine nq ?_; exact ⟨_, by omega, i + 1, by omega, by omega, rfl, rfl, rfl, rfl, rfl, (by rw [← fil_set' hi (by omega)])⟩
      · try simp only [lv1, lv2, lv3, lv4, lv5, lv6, Bool.not_true, Bool.not_false] at h
        refine tc_exit ?_; refine q_then_e (q_then_e (q_block_x (q_then_n ?_))); refine tc_seq ?_
        have hfin : xs.take i ++ List.replicate (n - i) 0 = sizedL n xs := by
          unfold sizedL
          have hc : i = n ∨ i = xs.length := by
            try simp only [Bool.false_eq_true, decide_eq_false_iff_not, decide_eq_true_eq] at *
            omega
          rcases hc with hc | hc
          · rw [hc, show n - xs.length = 0 by omega, Nat.sub_self]
          · rw [hc, List.take_length, List.take_of_length_le (by omega)]
        rw [hfin]
        refine tc_reg ?_; refine tlm ?_; refine tla ?_; refine nq ?_; refine tc_ret ?_; exact ⟨_, _, res1 rfl rfl, fun _ _ h => h, some ⟨b8, 0, none⟩, n, rfl, Nat.le_refl _, rfl⟩
    · try simp only [lv1, lv2, lv3, lv4, lv5, lv6, Bool.not_true, Bool.not_false] at h
      refine tk ?_; refine tk ?_; refine tk ?_; refine tk ?_; refine tv (o_pick_f rfl (by conv => lhs; whnf)) ?_; refine nq ?_; refine tc_cond_f rfl ?_; refine tc_exit ?_; refine q_then_e (q_then_e (q_block_x (q_then_n ?_))); refine tc_seq ?_
      have hfin : xs.take i ++ List.replicate (n - i) 0 = sizedL n xs := by
        unfold sizedL
        have hc : i = n ∨ i = xs.length := by
          try simp only [Bool.false_eq_true, decide_eq_false_iff_not, decide_eq_true_eq] at *
          omega
        rcases hc with hc | hc
        · rw [hc, show n - xs.length = 0 by omega, Nat.sub_self]
        · rw [hc, List.take_length, List.take_of_length_le (by omega)]
      rw [hfin]
      refine tc_reg ?_; refine tlm ?_; refine tla ?_; refine nq ?_; refine tc_ret ?_; exact ⟨_, _, res1 rfl rfl, fun _ _ h => h, some ⟨b8, 0, none⟩, n, rfl, Nat.le_refl _, rfl⟩
structure WdC where
  a : Option Addr
  c : Nat
  b : List Nat
  q : Int
  v : Int
  af : Int
  kq : Int
def WdC.cells (t : WdC) : List Value := [.slice t.a t.b.length t.c, .int .i64 t.q, .int .u64 t.v, .int .i64 t.af, .int .i64 t.kq]
def PWord (A : SP) (cs : List Value) (t : WdC) : Prop := cs = t.cells ∧ Rs A t.a (bys t.b) ∧ (∀ x ∈ t.b, x < 256) ∧ t.b.length ≤ t.c ∧ t.b.length ≤ 140737488351232 ∧ 0 ≤ t.v ∧ t.v < 18446744073709551616
end Go.Vl

namespace Go.Vl
open Go Go.Proofs
/-- A device of n lines with room for k more contents of each. -/
structure Gd (n k : Nat) (s : DevS) : Prop where
  len : s.ls.length = n
  room : Room k s
  wf : WfD s
theorem Gd.le {n a b : Nat} {s : DevS} (h : Gd n a s) (hab : b ≤ a) : Gd n b s := ⟨h.len, room_le h.room hab, h.wf⟩
theorem fe_len (s : DevS) : (fe s).2.ls.length = s.ls.length := by
  unfold fe
  split
  · rfl
  · rw [doneS_len]; simp [fenceS]
theorem flF_len : ∀ (k q : Nat) (s : DevS), (flF k q s).2.ls.length = s.ls.length
  | 0, q, s => by rw [flF_zero]; exact fe_len s
  | k + 1, q, s => by
    show (if (fl1 ((q * 64 : Nat) : Int) s).1 ≠ 0 then fl1 ((q * 64 : Nat) : Int) s else flF k (q + 1) (fl1 ((q * 64 : Nat) : Int) s).2).2.ls.length = _
    split
    · exact fl1_len _ _
    · rw [flF_len k]; exact fl1_len _ _
theorem gd_flF {n k : Nat} (j q : Nat) {s : DevS} (h : Gd n k s) : Gd n k (flF j q s).2 := ⟨(flF_len _ _ _).trans h.len, (flF_room _ _ _ h.wf h.room).1, (flF_room _ _ _ h.wf h.room).2⟩
theorem gd_fe {n k : Nat} {s : DevS} (h : Gd n k s) : Gd n k (fe s).2 := by rw [← flF_zero 0]; exact gd_flF 0 0 h
theorem gd_range {n k : Nat} {p m : Int} {s : DevS} (h : Gd n k s) : Gd n k (rangeP p m s).2 := by
  unfold rangeP
  split
  · exact h
  · split
    · exact h
    · split
      · exact h
      · exact gd_flF _ _ h
theorem gd_pub {n k v : Nat} {p : Int} {s : DevS} (h : Gd n (k + 1) s) (hv : v < 18446744073709551616) : Gd n k (pubP p v s).2 := by
  have h1 : Gd n k (st8 p v s).2 := ⟨(st8_len _ _ _).trans h.len, st8_room (e := (st8 p v s).1) rfl h.wf hv h.room, st8_wf (e := (st8 p v s).1) rfl h.wf hv (room_le h.room (by omega))⟩
  unfold pubP
  split
  · exact h1
  · exact gd_flF _ _ h1
theorem gd_sto {n k : Nat} {p : Int} {b : List Nat} {s : DevS} (h : Gd n (k + b.length) s) (hb : ∀ x ∈ b, x < 256) : Gd n k (sto p b s).2 :=
  ⟨(sto_len _ _ _).trans h.len, sto_room (e := (sto p b s).1) rfl h.wf hb h.room, sto_wf h.wf hb (room_le h.room (by omega))⟩
theorem gd_putF {n k at_ sz : Nat} : ∀ {l : List (Int × Int)} {p : Nat} {s : DevS}, l.all (mayX (n * 64) at_ sz) = true → Gd n (k + needN l) s → Gd n k (putF p l s).2
  | [], p, s, _, h => h.le (by omega)
  | x :: l, p, s, ha, h => by
    rw [List.all_cons, Bool.and_eq_true] at ha
    obtain ⟨q, m, rfl, y1, y2, y3, y4⟩ := may_nat ha.1
    rw [needN_cons] at h
    simp only [Int.toNat_natCast] at h
    have hil := imgS_len h.wf
    have hln := h.len
    have hol : (((imgS s).drop q).take m).length = m := by rw [List.length_take, List.length_drop]; omega
    have hrl : (recS q (((imgS s).drop q).take m)).length = 24 + up8 m := by rw [recS_len, hol]
    have h1 : Gd n (k + needN l) (sto (p : Nat) (recS q (((imgS s).drop q).take m)) s).2 := gd_sto (h.le (by rw [hrl]; omega)) (recS_b img_sub)
    show Gd n k (if (sto (p : Nat) (recS q (((imgS s).drop q).take m)) s).1 ≠ 0 then sto (p : Nat) (recS q (((imgS s).drop q).take m)) s else putF (p + (24 + up8 m)) l (sto (p : Nat) (recS q (((imgS s).drop q).take m)) s).2).2
    split
    · exact h1.le (by omega)
    · exact gd_putF ha.2 h1
theorem gd_write {n k at_ sz : Nat} {l : List (Int × Int)} {s : DevS} (h : Gd n (sz + 1 + k) s) (hl : l.length < 18446744073709551616) : Gd n k (writeS at_ sz l s).2 := by
  unfold writeS
  split
  · exact h.le (by omega)
  split
  · exact h.le (by omega)
  split
  · exact h.le (by omega)
  rename_i hall
  split
  · exact h.le (by omega)
  rename_i hful
  split
  · exact h.le (by omega)
  have ha : l.all (mayX (s.ls.length * 64) at_ sz) = true := by simpa using hall
  have hx1 : ∀ x ∈ l, 1 ≤ x.2 := fun x hx => by
    obtain ⟨p, m, rfl, _, hn, _⟩ := may_nat (List.all_eq_true.1 ha x hx); show (1 : Int) ≤ (m : Int); omega
  obtain ⟨nd, en, hnd⟩ : ∃ nd en, needS (lensX l) = (nd, en) := ⟨_, _, rfl⟩
  rw [hnd] at hful
  simp only [] at hful
  have hN := needF_ok hx1 hnd (by omega)
  have h1 : Gd n (k + 1) (putF (at_ + 64) l s).2 := gd_putF (by rw [← h.len]; exact ha) (h.le (by omega))
  split
  · exact h1.le (by omega)
  have h2 := gd_range (p := ((at_ + 64 : Nat) : Int)) (m := (needS (lensX l)).1) h1
  split
  · exact h2.le (by omega)
  · exact gd_pub h2 hl
theorem spl_zero {l : List Nat} {p k : Nat} (h : p + k < l.length) : (spl l p (List.replicate k 0)).set (p + k) 0 = spl l p (List.replicate (k + 1) 0) := by
  apply List.ext_getElem?
  intro j
  have h1 : (spl l p (List.replicate k 0)).length = l.length := spl_length (by rw [List.length_replicate]; omega)
  rw [List.getElem?_set, h1, spl_at (by rw [List.length_replicate]; omega), spl_at (by rw [List.length_replicate]; omega)]
  simp only [List.length_replicate, List.getElem?_replicate]
  by_cases hj : p + k = j
  · subst hj
    rw [if_pos rfl, if_pos (by omega), if_pos (by omega), if_pos (by omega)]
  · rw [if_neg hj]
    by_cases h2 : p ≤ j ∧ j < p + k
    · rw [if_pos h2, if_pos (by omega), if_pos (by omega), if_pos (by omega)]
    · rw [if_neg h2, if_neg (by omega)]
end Go.Vl

namespace Go.Vl
open Go Go.Proofs
/-- An entry: its key, its value, when it came. -/
structure ME where
  k : Int
  v : Value
  b : Nat
/-- The entries, and the clock. -/
structure MS where
  D : List ME
  c : Nat
def ment (ik : IntKind) (e : ME) : MapEntry := ⟨.int ik e.k, e.v, e.b⟩
def mpo (ik : IntKind) (M : MS) : Obj := .map (M.D.map (ment ik)).toArray M.c
def mfind : List ME → Int → Nat → Option (Nat × Value)
  | [], _, _ => none
  | e :: D, a, i => if a = e.k then some (i, e.v) else mfind D a (i + 1)
def MS.get (M : MS) (a : Int) : Option Value := (mfind M.D a 0).map Prod.snd
def MS.put (M : MS) (a : Int) (v : Value) : MS := match mfind M.D a 0 with
  | some (i, _) => ⟨M.D.modify i (fun e => ⟨e.k, v, e.b⟩), M.c⟩
  | none => ⟨M.D ++ [⟨a, v, M.c⟩], M.c + 1⟩
def MS.del (M : MS) (a : Int) : MS := match mfind M.D a 0 with
  | some (i, _) => ⟨M.D.eraseIdx i, M.c⟩
  | none => M
def MS.clr (M : MS) : MS := ⟨[], M.c⟩
/-- What a map may be: no key twice, nor a time of coming; all came before now. -/
structure WfM (M : MS) : Prop where
  keys : (M.D.map ME.k).Nodup
  born : (M.D.map ME.b).Nodup
  past : ∀ e ∈ M.D, e.b < M.c
theorem mfind_i : ∀ {D : List ME} {a : Int} {i : Nat}, mfind D a i = (mfind D a 0).map fun p => (p.1 + i, p.2)
  | [], _, _ => rfl
  | e :: D, a, i => by
    unfold mfind
    split
    · simp
    · rw [mfind_i (i := i + 1), mfind_i (i := 0 + 1)]
      cases mfind D a 0 <;> simp; omega
theorem mfind_some : ∀ {D : List ME} {a : Int} {i : Nat} {v : Value}, mfind D a 0 = some (i, v) → ∃ h : i < D.length, D[i].k = a ∧ D[i].v = v
  | e :: D, a, i, v, h => by
    unfold mfind at h
    split at h
    · rename_i he
      simp only [Option.some.injEq, Prod.mk.injEq] at h
      obtain ⟨rfl, rfl⟩ := h
      exact ⟨by simp, he.symm, rfl⟩
    · rw [mfind_i] at h
      cases hm : mfind D a 0 with
      | none => rw [hm] at h; cases h
      | some p =>
        rw [hm] at h
        simp only [Option.map_some, Option.some.injEq, Prod.mk.injEq] at h
        obtain ⟨rfl, rfl⟩ := h
        obtain ⟨h1, h2, h3⟩ := mfind_some (D := D) (i := p.1) (v := p.2) hm
        exact ⟨by simp; omega, by simpa using h2, by simpa using h3⟩
theorem mfind_none : ∀ {D : List ME} {a : Int}, mfind D a 0 = none → ∀ e ∈ D, e.k ≠ a
  | [], _, _ => by simp
  | x :: D, a, h => by
    unfold mfind at h
    split at h
    · cases h
    · rename_i hx
      rw [mfind_i] at h
      have hm : mfind D a 0 = none := by cases hm : mfind D a 0 <;> rw [hm] at h <;> first | rfl | cases h
      intro e he
      rcases List.mem_cons.1 he with rfl | he
      · exact fun e => hx e.symm
      · exact mfind_none hm e he
theorem mfind_cons (e : ME) (D : List ME) (a : Int) (i : Nat) : mfind (e :: D) a i = if a = e.k then some (i, e.v) else mfind D a (i + 1) := rfl
theorem mfind_append : ∀ {D E : List ME} {a : Int}, mfind (D ++ E) a 0 = (mfind D a 0).or (mfind E a D.length)
  | [], E, a => by simp [mfind]
  | x :: D, E, a => by
    rw [List.cons_append, mfind_cons, mfind_cons]
    split
    · simp
    · rw [mfind_i, mfind_append, mfind_i (i := 0 + 1) (D := D)]
      have : mfind E a (x :: D).length = (mfind E a D.length).map fun p => (p.1 + 1, p.2) := by
        rw [mfind_i, mfind_i (i := D.length)]; cases mfind E a 0 <;> simp; omega
      rw [this]
      cases mfind D a 0 <;> simp
theorem mfind_modify : ∀ {D : List ME} {a c : Int} {i : Nat} {u v : Value}, mfind D a 0 = some (i, u) → mfind (D.modify i fun e => ⟨e.k, v, e.b⟩) c 0 = if a = c then some (i, v) else mfind D c 0
  | e :: D, a, c, i, u, v, h => by
    unfold mfind at h
    split at h
    · rename_i he
      simp only [Option.some.injEq, Prod.mk.injEq] at h
      obtain ⟨rfl, rfl⟩ := h
      subst he
      rw [List.modify_zero_cons]
      unfold mfind
      by_cases hc : e.k = c
      · rw [if_pos hc.symm, if_pos hc]
      · rw [if_neg (fun h => hc h.symm), if_neg hc, if_neg (fun h => hc h.symm)]
    · rename_i he
      rw [mfind_i] at h
      cases hm : mfind D a 0 with
      | none => rw [hm] at h; cases h
      | some p =>
        rw [hm] at h
        simp only [Option.map_some, Option.some.injEq, Prod.mk.injEq] at h
        obtain ⟨rfl, rfl⟩ := h
        rw [List.modify_succ_cons]
        have ih := mfind_modify (c := c) (v := v) (i := p.1) (u := p.2) hm
        unfold mfind
        by_cases hc : c = e.k
        · subst hc; rw [if_pos rfl, if_neg he, if_pos rfl]
        · rw [if_neg hc, if_neg hc, mfind_i, ih]
          split
          · simp
          · rw [mfind_i (i := 0 + 1)]
theorem MS.get_put {M : MS} {a c : Int} {v : Value} : (M.put a v).get c = if a = c then some v else M.get c := by
  unfold MS.put MS.get
  cases h : mfind M.D a 0 with
  | some p =>
    obtain ⟨i, u⟩ := p
    simp only []
    rw [mfind_modify h]
    split <;> rfl
  | none =>
    simp only []
    rw [mfind_append]
    by_cases hc : a = c
    · subst hc; rw [h, if_pos rfl]; simp [mfind]
    · rw [if_neg hc]
      have : mfind [(⟨a, v, M.c⟩ : ME)] c M.D.length = none := by simp [mfind, Ne.symm hc]
      rw [this, Option.or_none]
theorem wfM_put {M : MS} {a : Int} {v : Value} (h : WfM M) : WfM (M.put a v) := by
  unfold MS.put
  cases hf : mfind M.D a 0 with
  | some p =>
    obtain ⟨i, u⟩ := p
    have e1 : ∀ (l : List ME) (i : Nat), (l.modify i fun e => ⟨e.k, v, e.b⟩).map ME.k = l.map ME.k := fun l i => by
      apply List.ext_getElem?; intro j; simp only [List.getElem?_map, List.getElem?_modify]; cases l[j]? <;> simp; split <;> rfl
    have e2 : ∀ (l : List ME) (i : Nat), (l.modify i fun e => ⟨e.k, v, e.b⟩).map ME.b = l.map ME.b := fun l i => by
      apply List.ext_getElem?; intro j; simp only [List.getElem?_map, List.getElem?_modify]; cases l[j]? <;> simp; split <;> rfl
    refine ⟨by simp only []; rw [e1]; exact h.keys, by simp only []; rw [e2]; exact h.born, fun e he => ?_⟩
    simp only [] at he ⊢
    have hb : e.b ∈ (M.D.modify i fun e => ⟨e.k, v, e.b⟩).map ME.b := List.mem_map_of_mem he
    rw [e2] at hb
    obtain ⟨e', he', hbe⟩ := List.mem_map.1 hb
    rw [← hbe]; exact h.past e' he'
  | none =>
    have hn := mfind_none hf
    refine ⟨?_, ?_, fun e he => ?_⟩
    · simp only [List.map_append, List.map_cons, List.map_nil]
      exact List.nodup_append.2 ⟨h.keys, by simp, fun x hx y hy => by
        simp only [List.mem_singleton] at hy; subst hy
        obtain ⟨e, he, rfl⟩ := List.mem_map.1 hx
        exact hn e he⟩
    · simp only [List.map_append, List.map_cons, List.map_nil]
      exact List.nodup_append.2 ⟨h.born, by simp, fun x hx y hy => by
        simp only [List.mem_singleton] at hy; subst hy
        obtain ⟨e, he, rfl⟩ := List.mem_map.1 hx
        have := h.past e he; omega⟩
    · rcases List.mem_append.1 he with he | he
      · have := h.past e he; show e.b < M.c + 1; omega
      · simp only [List.mem_singleton] at he; subst he; exact Nat.lt_succ_self _
theorem findNow_e {ik : IntKind} {a : Int} : ∀ (D : List ME) (i : Nat), Instr.findNow (.int ik) (.int ik a) (D.map (ment ik)) i = some (mfind D a i)
  | [], i => rfl
  | e :: D, i => by
    simp only [List.map_cons, Instr.findNow, ment, Instr.sameNow, if_true]
    unfold mfind
    by_cases h : a = e.k
    · subst h; simp
    · have : (a == e.k) = false := by simpa using h
      rw [this, if_neg h]; exact findNow_e D (i + 1)
section
variable {P : Program} {w : World} {ik : IntKind} {kt : TypeId}
theorem run_findKey {D : List ME} {a : Int} (hk : P.underlying kt = some (.int ik)) : (Instr.findKey kt (.int ik a) (D.map (ment ik))).run P w = .ok (mfind D a 0) w := by
  unfold Instr.findKey
  rw [run_bind (run_und hk), findNow_e]; rfl
theorem run_checkKey {b : Bool} {a : Int} (hk : P.underlying kt = some (.int ik)) : (Instr.checkKey b 10000 kt (.int ik a)).run P w = .ok () w := by
  show (Instr.checkKey b (9999 + 1) kt (.int ik a)).run P w = _
  rw [Instr.checkKey, run_bind (run_und hk)]; rfl
theorem run_getMap {b : Nat} {M : MS} (h : w.heap[b]? = some (mpo ik M)) : (getObj b).run P w = .ok (mpo ik M) w := by
  simp [getObj, Sem.run, h, mpo]
theorem run_setMap {b : Nat} {M : MS} {o : Obj} (h : w.heap[b]? = some (mpo ik M)) : (setObj b o).run P w = .ok () { w with heap := w.heap.setIfInBounds b o } := by
  simp [setObj, Sem.run, h, mpo]
end
theorem set_heap {w : World} {b : Nat} {o o' : Obj} (h : w.heap[b]? = some o) (k : Nat) : ({ w with heap := w.heap.setIfInBounds b o' } : World).heap[k]? = if k = b then some o' else w.heap[k]? := by
  show (w.heap.setIfInBounds b o')[k]? = _
  rw [Array.getElem?_setIfInBounds]
  have hb : b < w.heap.size := by
    rcases Nat.lt_or_ge b w.heap.size with h1 | h1
    · exact h1
    · rw [Array.getElem?_eq_none h1] at h; cases h
  by_cases hk : b = k
  · subst hk; simp [hb]
  · rw [if_neg hk, if_neg (Ne.symm hk)]
section
variable {P : Program} {n : Nat} {ρ : Env} {A : SP} {dst : Option Tmp} {ty : TypeId} {pos : String} {after : Array Edge} {gd : Option (Nat × Bool)} {ik : IntKind} {kt et t : TypeId} {x y : Operand} {b : Nat} {M M' : MS} {a : Int} {A' : SP} {z : Value}
theorem o_makeMap (hu : P.underlying t = some (.map kt et)) : OpX P n ρ A ⟨dst, .makeMap t none, ty, pos, after, gd⟩ (fun v B => ∃ b, v = .map (some b) ∧ B = A * pt b (mpo ik ⟨[], 0⟩)) := fun g w hs => by
  refine ⟨_, w.alloc (mpo ik ⟨[], 0⟩), _, ?_, hs.alloc _, w.heap.size, rfl, rfl⟩
  simp only [execOp, Option.map_none]
  rw [run_bind (a := .map (some w.heap.size)) (w' := w.alloc (mpo ik ⟨[], 0⟩))]
  · rfl
  rfl
theorem o_lookup (hu : P.underlying t = some (.map kt et)) (hk : P.underlying kt = some (.int ik)) (hz : zeroE P et = some z) (hx : ev n ρ x = .map (some b)) (hy : ev n ρ y = .int ik a) (hh : Has A b (mpo ik M)) :
    OpV P n ρ A ⟨dst, .lookup t x y false, ty, pos, after, gd⟩ ((M.get a).getD z) := fun g w hs => by
  have h := hh g w hs
  simp only [execOp, hx, hy]
  rw [run_bind (a := (M.get a).getD z) (w' := w)]
  · rfl
  unfold Instr.lookup
  rw [run_bind (run_und hu)]
  simp only []
  rw [run_bind (run_getMap h)]
  simp only [mpo]
  rw [run_bind (a := (M.D.map (ment ik)).toArray) (w' := w) rfl, run_bind (run_checkKey hk), run_bind (run_findKey hk)]
  unfold MS.get
  cases mfind M.D a 0 with
  | none => simp only [Option.map_none, Option.getD_none]; rw [run_bind (run_zeroV hz)]; rfl
  | some p => rfl
theorem o_lookupOk (hu : P.underlying t = some (.map kt et)) (hk : P.underlying kt = some (.int ik)) (hz : zeroE P et = some z) (hx : ev n ρ x = .map (some b)) (hy : ev n ρ y = .int ik a) (hh : Has A b (mpo ik M)) :
    OpV P n ρ A ⟨dst, .lookup t x y true, ty, pos, after, gd⟩ (.tuple #[(M.get a).getD z, .bool (M.get a).isSome]) := fun g w hs => by
  have h := hh g w hs
  simp only [execOp, hx, hy]
  rw [run_bind (a := .tuple #[(M.get a).getD z, .bool (M.get a).isSome]) (w' := w)]
  · rfl
  unfold Instr.lookup
  rw [run_bind (run_und hu)]
  simp only []
  rw [run_bind (run_getMap h)]
  simp only [mpo]
  rw [run_bind (a := (M.D.map (ment ik)).toArray) (w' := w) rfl, run_bind (run_checkKey hk), run_bind (run_findKey hk)]
  unfold MS.get
  cases mfind M.D a 0 with
  | none => simp only [Option.map_none, Option.getD_none, Option.isSome_none]; rw [run_bind (run_zeroV hz)]; rfl
  | some p => rfl
theorem o_mapUpdate {v : Value} {u : Operand} (hu : P.underlying t = some (.map kt et)) (hk : P.underlying kt = some (.int ik)) (hx : ev n ρ x = .map (some b)) (hup : Upd A b (mpo ik M) (mpo ik M') A') (hy : ev n ρ y = .int ik a) (hv : ev n ρ u = v) (he : M.put a v = M') :
    OpU P n ρ A ⟨dst, .mapUpdate t x y u, ty, pos, after, gd⟩ A' := fun g w hs => by
  have h := hup.has g w hs
  refine ⟨{ w with heap := w.heap.setIfInBounds b (mpo ik M') }, ?_, hup.sat hs (set_heap h) rfl rfl rfl⟩
  simp only [execOp, hx, hy, hv]
  rw [run_bind (a := ()) (w' := { w with heap := w.heap.setIfInBounds b (mpo ik M') })]
  · rfl
  unfold Instr.mapUpdate
  rw [run_bind (run_und hu)]
  simp only []
  rw [run_bind (run_getMap h)]
  simp only [mpo]
  rw [run_bind (run_checkKey hk), run_bind (run_findKey hk)]
  subst he
  unfold MS.put
  cases hf : mfind M.D a 0 with
  | none =>
    simp only []
    rw [run_setMap h]
    simp [mpo, ment]
  | some p =>
    obtain ⟨i, u0⟩ := p
    obtain ⟨hi, h1, _⟩ := mfind_some hf
    simp only []
    have hkk : ((((M.D.map (ment ik)).toArray[i]?).map (·.key)).getD (.int ik a)) = .int ik a := by simp [hi, ment, h1]
    rw [hkk, run_bind (a := .int ik a) (w' := w)]
    · rw [run_setMap h]
      congr 3
      simp only [mpo, Obj.map.injEq, and_true]
      apply Array.ext'
      simp only [Array.toList_modify, List.toList_toArray]
      apply List.ext_getElem?
      intro j
      simp only [List.getElem?_modify, List.getElem?_map]
      by_cases hj : i = j
      · subst hj; rw [List.getElem?_eq_getElem hi]; simp [ment, h1]
      · simp only [if_neg hj]
        cases M.D[j]? <;> simp
    · unfold Instr.keyThatStays
      have : Instr.sameBits 10000 (.int ik a) (.int ik a) = true := by simp [Instr.sameBits]
      rw [if_pos this]; rfl
end
end Go.Vl

namespace Go.Vl
open Go Go.Proofs
/-- What was put into a transaction: of each address a byte, and whether it is fresh. -/
abbrev TF := Nat → Option (Nat × Bool)
def tf0 : TF := fun _ => none
def layF (p : Nat) (xs : List Nat) (fr : Bool) (f : TF) : TF := fun a => if p ≤ a ∧ a < p + xs.length then some (xs.getD (a - p) 0, ((f a).map (·.2)).getD fr) else f a
def byF (f : TF) (a : Nat) : Nat := ((f a).map (·.1)).getD 0
def isK (f : TF) (k : Bool) (a : Nat) : Bool := decide ((f a).map (·.2) = some k)
/-- The addresses of a kind, rising. -/
def adrF (n : Nat) (k : Bool) (f : TF) : List Nat := (List.range n).filter (isK f k)
/-- A byte more: at the last run's end, or a run of its own. -/
def runA (f : TF) (out : List (Nat × List Nat)) (a : Nat) : List (Nat × List Nat) :=
  match out.getLast? with
  | some r => if r.1 + r.2.length = a then out.dropLast ++ [(r.1, r.2 ++ [byF f a])] else out ++ [(a, [byF f a])]
  | none => [(a, [byF f a])]
def runsL (f : TF) (l : List Nat) : List (Nat × List Nat) := l.foldl (runA f) []
def runsF (n : Nat) (k : Bool) (f : TF) : List (Nat × List Nat) := runsL f (adrF n k f)
def extX (l : List (Nat × List Nat)) : List (Int × Int) := l.map fun r => ((r.1 : Int), (r.2.length : Int))
/-- Bytes as they are seen within. -/
def ovF (f : TF) (p : Nat) (xs : List Nat) : List Nat := xs.mapIdx fun i x => ((f (p + i)).map (·.1)).getD x
theorem ovF_len (f : TF) (p : Nat) (xs : List Nat) : (ovF f p xs).length = xs.length := by simp [ovF]
def stoL : List (Nat × List Nat) → DevS → Int × DevS
  | [], s => (0, s)
  | r :: l, s => if (sto (r.1 : Nat) r.2 s).1 ≠ 0 then sto (r.1 : Nat) r.2 s else stoL l (sto (r.1 : Nat) r.2 s).2
/-- The lines of runs, each once: those from d on. -/
def linR : List (Nat × List Nat) → Nat → List Nat
  | [], _ => []
  | r :: l, d => (List.range ((r.1 + r.2.length - 1) / 64 + 1 - max (r.1 / 64) d)).map (fun j => max (r.1 / 64) d + j) ++ linR l (max d ((r.1 + r.2.length - 1) / 64 + 1))
def flLs : List Nat → DevS → Int × DevS
  | [], s => (0, s)
  | q :: l, s => if (fl1 ((q * 64 : Nat) : Int) s).1 ≠ 0 then fl1 ((q * 64 : Nat) : Int) s else flLs l (fl1 ((q * 64 : Nat) : Int) s).2
def writeT (l : List (Nat × List Nat)) (s : DevS) : Int × DevS := if (stoL l s).1 ≠ 0 then stoL l s else flLs (linR l 0) (stoL l s).2
/-- What a commit does behind the first errors: its error, whether the transaction is over. -/
def comS (at_ sz n : Nat) (f : TF) (s : DevS) : (Int × Bool) × DevS :=
  if (writeT (runsF n true f) s).1 ≠ 0 then (((writeT (runsF n true f) s).1, true), (writeT (runsF n true f) s).2)
  else if runsF n false f = [] then
    if runsF n true f = [] then ((0, true), (writeT (runsF n true f) s).2) else (((fe (writeT (runsF n true f) s).2).1, true), (fe (writeT (runsF n true f) s).2).2)
  else if (writeS at_ sz (extX (runsF n false f)) (writeT (runsF n true f) s).2).1 ≠ 0 then
    (((writeS at_ sz (extX (runsF n false f)) (writeT (runsF n true f) s).2).1, decide ((writeS at_ sz (extX (runsF n false f)) (writeT (runsF n true f) s).2).1 = 5)), (writeS at_ sz (extX (runsF n false f)) (writeT (runsF n true f) s).2).2)
  else if (writeT (runsF n false f) (writeS at_ sz (extX (runsF n false f)) (writeT (runsF n true f) s).2).2).1 ≠ 0 then
    (((writeT (runsF n false f) (writeS at_ sz (extX (runsF n false f)) (writeT (runsF n true f) s).2).2).1, true), (writeT (runsF n false f) (writeS at_ sz (extX (runsF n false f)) (writeT (runsF n true f) s).2).2).2)
  else if (fe (writeT (runsF n false f) (writeS at_ sz (extX (runsF n false f)) (writeT (runsF n true f) s).2).2).2).1 ≠ 0 then
    (((fe (writeT (runsF n false f) (writeS at_ sz (extX (runsF n false f)) (writeT (runsF n true f) s).2).2).2).1, true), (fe (writeT (runsF n false f) (writeS at_ sz (extX (runsF n false f)) (writeT (runsF n true f) s).2).2).2).2)
  else (((clearS at_ (fe (writeT (runsF n false f) (writeS at_ sz (extX (runsF n false f)) (writeT (runsF n true f) s).2).2).2).2).1, true), (clearS at_ (fe (writeT (runsF n false f) (writeS at_ sz (extX (runsF n false f)) (writeT (runsF n true f) s).2).2).2).2).2)
/-! ### The map in memory -/
def encC (c : Nat × Bool) : Value := .agg #[.int .u8 (c.1 : Nat), .bool c.2]
/-- A map holds what was put in, of a device of n bytes. -/
structure MF (M : MS) (n : Nat) (f : TF) : Prop where
  wf : WfM M
  get : ∀ a : Nat, M.get (a : Int) = (f a).map encC
  keys : ∀ e ∈ M.D, ∃ a : Nat, a < n ∧ e.k = (a : Int)
  out : ∀ a, n ≤ a → f a = none
  by_ : ∀ a c, f a = some c → c.1 < 256
theorem mf_nil (c n : Nat) : MF ⟨[], c⟩ n tf0 := ⟨⟨(by simp), (by simp), fun e h => (by cases h)⟩, fun a => rfl, fun e h => (by cases h), fun _ _ => rfl, fun a c h => (by cases h)⟩
theorem layF_nil (p : Nat) (fr : Bool) (f : TF) : layF p [] fr f = f := by
  funext a; unfold layF; rw [if_neg (by simp only [List.length_nil]; omega)]
theorem layF_snoc {p : Nat} {xs : List Nat} {x : Nat} {fr : Bool} {f : TF} : layF p (xs ++ [x]) fr f = fun a => if a = p + xs.length then some (x, ((layF p xs fr f a).map (·.2)).getD fr) else layF p xs fr f a := by
  funext a
  unfold layF
  simp only [List.length_append, List.length_singleton]
  by_cases h : a = p + xs.length
  · subst h
    rw [if_pos (by omega), if_pos rfl, if_neg (by omega), show p + xs.length - p = xs.length by omega]
    simp [List.getD]
  · rw [if_neg h]
    by_cases h2 : p ≤ a ∧ a < p + xs.length
    · rw [if_pos (by omega), if_pos h2]
      congr 2
      simp only [List.getD_eq_getElem?_getD]
      rw [List.getElem?_append_left (by omega)]
    · rw [if_neg (by omega), if_neg h2]
theorem mf_put {M : MS} {n a : Nat} {f : TF} {x : Nat} {b : Bool} (h : MF M n f) (ha : a < n) (hx : x < 256) : MF (M.put (a : Int) (encC (x, b))) n (fun c => if c = a then some (x, b) else f c) := by
  refine ⟨wfM_put h.wf, fun c => ?_, fun e he => ?_, fun c hc => ?_, fun c v hv => ?_⟩
  · rw [MS.get_put]
    by_cases hc : c = a
    · subst hc; rw [if_pos rfl]; simp
    · rw [if_neg (by omega), if_neg hc]; exact h.get c
  · unfold MS.put at he
    split at he
    · rename_i i u hf
      have hk : ∃ e' ∈ M.D, e'.k = e.k := by
        obtain ⟨j, hj, rfl⟩ := List.mem_iff_getElem.1 he
        simp only [List.length_modify] at hj
        refine ⟨M.D[j], List.getElem_mem _, ?_⟩
        simp only [List.getElem_modify]
        split <;> rfl
      obtain ⟨e', h1, h2⟩ := hk
      rw [← h2]; exact h.keys e' h1
    · rcases List.mem_append.1 he with he | he
      · exact h.keys e he
      · rw [List.mem_singleton.1 he]; exact ⟨a, ha, rfl⟩
  · simp only [if_neg (show c ≠ a by omega)]; exact h.out c hc
  · by_cases hc : c = a
    · simp only [if_pos hc, Option.some.injEq] at hv; rw [← hv]; exact hx
    · simp only [if_neg hc] at hv; exact h.by_ c v hv
end Go.Vl

namespace Go.Vl
open Go Go.Proofs
/-- An iterator over map b, begun at a clock; the entries that it has handed out, by the times of their coming. -/
def mit (b since : Nat) (seen : List Nat) (c : Nat) : Obj := .mapIter (some b) since seen.toArray c
def nxV (ik : IntKind) (o : Option ME) : Value := match o with
  | none => .tuple #[.bool false]
  | some e => .tuple #[.bool true, .int ik e.k, e.v]
def nxI (b c : Nat) (seen : List Nat) (o : Option ME) : Obj := match o with
  | none => mit b c seen c
  | some e => mit b c (seen ++ [e.b]) c
/-- What a step of an iterator hands out. -/
structure NxP (M : MS) (seen : List Nat) (o : Option ME) : Prop where
  no : o = none → ∀ e ∈ M.D, e.b ∈ seen
  yes : ∀ e, o = some e → e ∈ M.D ∧ e.b ∉ seen
theorem er_map {α β : Type} (f : α → β) : ∀ (l : List α) (i : Nat), (l.map f).eraseIdx i = (l.eraseIdx i).map f
  | [], _ => rfl
  | _ :: _, 0 => rfl
  | x :: l, i + 1 => congrArg (f x :: ·) (er_map f l i)
section
variable {P : Program} {n : Nat} {ρ : Env} {A R : SP} {C : SP → SP} {dst : Option Tmp} {ty : TypeId} {pos : String} {after : Array Edge} {gd : Option (Nat × Bool)} {ik : IntKind} {kt et t : TypeId} {x y : Operand} {b r : Nat} {M M' : MS} {a : Int} {A' : SP} {z : Value} {seen : List Nat}
theorem o_range (hu : P.underlying t = some (.map kt et)) (hx : ev n ρ x = .map (some b)) (hh : Has A b (mpo ik M)) :
    OpX P n ρ A ⟨dst, .range t x, ty, pos, after, gd⟩ (fun v B => ∃ r, v = .pointer (some ⟨r, 0, none⟩) ∧ B = A * pt r (mit b M.c [] M.c)) := fun g w hs => by
  have h := hh g w hs
  refine ⟨_, w.alloc (mit b M.c [] M.c), _, ?_, hs.alloc _, w.heap.size, rfl, rfl⟩
  simp only [execOp, hx]
  rw [run_bind (a := .pointer (some ⟨w.heap.size, 0, none⟩)) (w' := w.alloc (mit b M.c [] M.c))]
  · rfl
  unfold Instr.range
  rw [run_bind (run_und hu)]
  simp only []
  rw [run_bind (run_getMap h)]
  simp only [mpo]
  rfl
theorem o_next (hw : WfM M) (hx : ev n ρ x = .pointer (some ⟨r, 0, none⟩)) (hc : Ct A (pt r (mit b M.c seen M.c)) R C) (hm : Has R b (mpo ik M)) :
    OpX P n ρ A ⟨dst, .next x false, ty, pos, after, gd⟩ (fun v B => ∃ o : Option ME, NxP M seen o ∧ v = nxV ik o ∧ B = C (pt r (nxI b M.c seen o))) := fun g w hs => by
  obtain ⟨rfl, hC⟩ := hc
  have hr : w.heap[r]? = some (.mapIter (some b) M.c seen.toArray M.c) := has_here g w hs
  have hb : w.heap[b]? = some (.map (M.D.map (ment ik)).toArray M.c) := (has_left hm) g w hs
  have hold : ∀ x ∈ (M.D.map (ment ik)).toArray.toList, x.born < M.c := fun x hx => by
    obtain ⟨e, he, rfl⟩ := List.mem_map.1 (by simpa using hx)
    exact hw.past e he
  have hmem : ∀ e : MapEntry, e ∈ (leftOf (M.D.map (ment ik)).toArray seen.toArray).toList ↔ ∃ e0 ∈ M.D, ment ik e0 = e ∧ e0.b ∉ seen := fun e => by
    unfold leftOf
    simp only [List.filter_toArray, List.mem_filter, List.mem_map, Bool.not_eq_true', Array.contains_eq_mem, decide_eq_false_iff_not, List.mem_toArray]
    constructor
    · rintro ⟨⟨e0, h0, rfl⟩, h1⟩; exact ⟨e0, h0, rfl, h1⟩
    · rintro ⟨e0, h0, rfl, h1⟩; exact ⟨⟨e0, h0, rfl⟩, h1⟩
  rcases run_next_at (P := P) w ty r b M.c M.c seen.toArray _ M.c hr hb hold (Nat.le_refl _) with ⟨h0, hrun⟩ | ⟨e, he, w1, hw1, hrun⟩
  · refine ⟨nxV ik none, w, C (pt r (nxI b M.c seen none)), ?_, by rw [hC]; exact hs, none, ⟨fun _ e he => ?_, fun _ h => (by cases h)⟩, rfl, rfl⟩
    · simp only [execOp, hx]
      rw [run_bind (a := .tuple #[.bool false]) (w' := w) hrun]; rfl
    · rcases Classical.em (e.b ∈ seen) with h1 | h1
      · exact h1
      · have h2 := (hmem (ment ik e)).2 ⟨e, he, rfl, h1⟩
        have h3 : (leftOf (M.D.map (ment ik)).toArray seen.toArray).toList.length = 0 := by rw [Array.length_toList]; exact h0
        rw [List.eq_nil_of_length_eq_zero h3] at h2; cases h2
  · obtain ⟨e0, h1, rfl, h2⟩ := (hmem e).1 he
    have hs1 : sat g w1 (R * pt r (mit b M.c seen M.c)) := by rcases hw1 with rfl | rfl; exact hs; exact hs.draw rfl rfl rfl rfl
    have hr1 : w1.heap[r]? = some (mit b M.c seen M.c) := has_here g w1 hs1
    have e2 : (Obj.mapIter (some b) M.c (seen.toArray.push (ment ik e0).born) M.c) = nxI b M.c seen (some e0) := by
      show _ = mit b M.c (seen ++ [e0.b]) M.c
      unfold mit; rw [List.push_toArray]; rfl
    rw [e2] at hrun
    refine ⟨nxV ik (some e0), Go.ChangeMaps.setBlock w1 r (nxI b M.c seen (some e0)), C (pt r (nxI b M.c seen (some e0))), ?_, ?_, some e0, ⟨fun h => (by cases h), fun e h => (by cases h; exact ⟨h1, h2⟩)⟩, rfl, rfl⟩
    · simp only [execOp, hx]
      rw [run_bind (a := nxV ik (some e0)) (w' := Go.ChangeMaps.setBlock w1 r (nxI b M.c seen (some e0))) hrun]; rfl
    · rw [hC]
      exact (upd_here (o' := nxI b M.c seen (some e0))).sat hs1 (set_heap hr1) rfl rfl rfl
theorem o_exNx {o : Option ME} (hx : ev n ρ x = nxV ik o) : OpV P n ρ A ⟨dst, .extract x 0, ty, pos, after, gd⟩ (.bool o.isSome) := by
  cases o with
  | none => exact o_extract hx rfl
  | some e => exact o_extract hx rfl
theorem o_entry {e : ME} (hw : WfM M) (he : e ∈ M.D) (hx : ev n ρ x = .pointer (some ⟨r, 0, none⟩)) (hr : Has A r (mit b M.c (seen ++ [e.b]) M.c)) (hm : Has A b (mpo ik M)) :
    OpV P n ρ A ⟨dst, .entry x, ty, pos, after, gd⟩ (.tuple #[.int ik e.k, e.v]) := fun g w hs => by
  have h1 : w.heap[r]? = some (.mapIter (some b) M.c (seen.toArray.push (ment ik e).born) M.c) := by
    have := hr g w hs
    unfold mit at this; rw [this, List.push_toArray]; rfl
  have h2 : w.heap[b]? = some (.map (M.D.map (ment ik)).toArray M.c) := hm g w hs
  simp only [execOp, hx]
  rw [run_bind (a := .tuple #[.int ik e.k, e.v]) (w' := w)]
  · rfl
  exact run_entry_at w r b M.c seen.toArray _ M.c (ment ik e) h1 h2 (by simpa using ⟨e, he, rfl⟩) (by simpa [ment, Function.comp_def] using hw.born)
theorem o_delete (hu : P.underlying t = some (.map kt et)) (hk : P.underlying kt = some (.int ik)) {t' : TypeId} (hx : ev n ρ x = .map (some b)) (hy : ev n ρ y = .int ik a) (hup : Upd A b (mpo ik M) (mpo ik M') A') (he : M.del a = M') :
    OpX P n ρ A ⟨dst, .call { callee := .builtin .delete, args := #[x, y], argTypes := #[t, t'] }, ty, pos, after, gd⟩ (fun v B => v = .tuple #[] ∧ B = A') := fun g w hs => by
  have h := hup.has g w hs
  refine ⟨.tuple #[], { w with heap := w.heap.setIfInBounds b (mpo ik M') }, A', ?_, hup.sat hs (set_heap h) rfl rfl rfl, rfl, rfl⟩
  simp only [execOp, resolve, List.map_toArray, List.map_cons, List.map_nil, hx, hy]
  rw [run_bind (w' := w) (a := ⟨.builtin .delete #[t, t'] ty _, #[.map (some b), .int ik a]⟩) (by rfl)]
  simp only [invoke, builtin]
  rw [run_bind (w' := { w with heap := w.heap.setIfInBounds b (mpo ik M') }) (a := .tuple #[])]
  · rfl
  unfold Builtin.delete_
  simp only [List.getElem?_toArray, List.getElem?_cons_zero, List.getElem?_cons_succ]
  rw [run_bind (run_und hu)]
  simp only []
  rw [run_bind (run_getMap h)]
  simp only [mpo]
  rw [run_bind (run_checkKey hk), run_bind (run_findKey hk)]
  subst he
  unfold MS.del
  cases hf : mfind M.D a 0 with
  | none => simp only []; rw [run_bind (run_setMap h)]; rfl
  | some p =>
    obtain ⟨i, u0⟩ := p
    obtain ⟨hi, h1, _⟩ := mfind_some hf
    simp only []
    have e : (M.D.map (ment ik)).toArray.eraseIdxIfInBounds i = ((M.D.eraseIdx i).map (ment ik)).toArray := by
      unfold Array.eraseIdxIfInBounds
      rw [dif_pos (by simpa using hi)]
      apply Array.ext'
      simp [er_map]
    rw [e, run_bind (run_setMap h)]; rfl
theorem o_clearM (hu : P.underlying t = some (.map kt et)) (hx : ev n ρ x = .map (some b)) (hup : Upd A b (mpo ik M) (mpo ik M.clr) A') :
    OpX P n ρ A ⟨dst, .call { callee := .builtin .clear, args := #[x], argTypes := #[t] }, ty, pos, after, gd⟩ (fun v B => v = .tuple #[] ∧ B = A') := fun g w hs => by
  have h := hup.has g w hs
  refine ⟨.tuple #[], { w with heap := w.heap.setIfInBounds b (mpo ik M.clr) }, A', ?_, hup.sat hs (set_heap h) rfl rfl rfl, rfl, rfl⟩
  simp only [execOp, resolve, List.map_toArray, List.map_cons, List.map_nil, hx]
  rw [run_bind (w' := w) (a := ⟨.builtin .clear #[t] ty _, #[.map (some b)]⟩) (by rfl)]
  simp only [invoke, builtin]
  rw [run_bind (w' := { w with heap := w.heap.setIfInBounds b (mpo ik M.clr) }) (a := .tuple #[])]
  · rfl
  unfold Builtin.clear_
  simp only [List.getElem?_toArray, List.getElem?_cons_zero]
  rw [run_bind (run_und hu), run_bind (run_getMap h)]
  simp only [mpo]
  rw [run_bind (run_setMap h)]; rfl
end
/-- The entries that a loop has met. -/
structure Vis (M : MS) (vis : List ME) : Prop where
  sub : ∀ e ∈ vis, e ∈ M.D
  nd : (vis.map ME.b).Nodup
theorem vis_nil (M : MS) : Vis M [] := ⟨fun e h => (by cases h), (by simp)⟩
theorem vis_snoc {M : MS} {vis : List ME} {e : ME} (h : Vis M vis) (h1 : NxP M (vis.map ME.b) (some e)) : Vis M (vis ++ [e]) := by
  obtain ⟨he, hn⟩ := h1.yes e rfl
  refine ⟨fun x hx => ?_, ?_⟩
  · rcases List.mem_append.1 hx with hx | hx
    · exact h.sub x hx
    · rw [List.mem_singleton.1 hx]; exact he
  · rw [List.map_append]
    refine List.nodup_append.2 ⟨h.nd, by simp, fun a ha b hb => ?_⟩
    simp only [List.map_cons, List.map_nil, List.mem_singleton] at hb
    subst hb
    exact fun h => hn (h ▸ ha)
theorem nodup_of_map {α β : Type} {f : α → β} {l : List α} (h : (l.map f).Nodup) : l.Nodup := List.Pairwise.of_map f (fun a b hab e => hab (by rw [e])) h
theorem vis_len {M : MS} {vis : List ME} (h : Vis M vis) : vis.length ≤ M.D.length := List.Nodup.length_le_of_subset (nodup_of_map h.nd) h.sub
theorem vis_perm {M : MS} {vis : List ME} (hw : WfM M) (h : Vis M vis) (h1 : NxP M (vis.map ME.b) none) : vis.Perm M.D := by
  refine (List.perm_ext_iff_of_nodup (nodup_of_map h.nd) (nodup_of_map hw.born)).2 fun e => ⟨h.sub e, fun he => ?_⟩
  obtain ⟨e', h2, h3⟩ := List.mem_map.1 (h1.no rfl e he)
  have hin : ∀ {l : List ME}, (l.map ME.b).Nodup → ∀ x ∈ l, ∀ y ∈ l, x.b = y.b → x = y := by
    intro l
    induction l with
    | nil => intro _ x hx; cases hx
    | cons u l ih =>
      intro hn x hx y hy e
      simp only [List.map_cons, List.nodup_cons] at hn
      rcases List.mem_cons.1 hx with h1 | h1
      · rcases List.mem_cons.1 hy with h2 | h2
        · rw [h1, h2]
        · exact absurd (List.mem_map_of_mem (f := ME.b) h2) (by rw [← e, h1]; exact hn.1)
      · rcases List.mem_cons.1 hy with h2 | h2
        · exact absurd (List.mem_map_of_mem (f := ME.b) h1) (by rw [e, h2]; exact hn.1)
        · exact ih hn.2 x h1 y h2 e
  rw [← hin hw.born e' (h.sub e' h2) e he h3]; exact h2
end Go.Vl
