/- What the row rests on, part 3: a calculus of assertions, walks of functions over it, and plain laws. Conditions: none. -/
import Derived.Deep.QuietTactic
import Derived.BigQuiet
import Derived.WalkKit
import Derived.Test.YtnkeepjpkdjcdaaProg
import Derived.OrdersHeld
import Derived.Laws.BytesArg
import Derived.Lib.Builder
import Derived.Lib.UnsafeStr
import Derived.RangeFuncRecord
import Derived.TacticsIn
import Derived.Deep.Slices
import Derived.OpenShut
import Derived.ChangeArms
import Derived.SizedLaws
import Derived.ChangeSame
import Derived.Test.YtnkeepjpkdjcdaaRows
import Derived.Test.YtnkeepjpkdjcdaaMg2
set_option linter.unusedVariables false
set_option linter.unusedSimpArgs false
namespace Go.Vl
open Go Go.Proofs
theorem old_heap' {W w : World} {g : Gh} (h : sat g w (old W)) {k : Nat} (hk : k < W.heap.size) : w.heap[k]? = W.heap[k]? := by
  obtain ⟨x, rfl, hx⟩ := h.hp
  have := Array.getElem?_eq_getElem hk
  rw [this]; exact hx _ _ true (by simp [this])
theorem cell_old' {W : World} {b off : Nat} {v : Value} (h : W.cell? ⟨b, off, none⟩ = some v) : Cell (old W) b off v := fun g w hs => by
  have hb : b < W.heap.size := by
    rcases Nat.lt_or_ge b W.heap.size with h1 | h1
    · exact h1
    · exfalso
      have : W.heap[b]? = none := Array.getElem?_eq_none h1
      simp [World.cell?, this] at h
  have := old_heap' hs hb
  rw [← h]; simp only [World.cell?, this]
theorem rs_old {W : World} {a : Addr} {xs : List Value} (h : ∀ i v, xs[i]? = some v → W.cell? (a.add i) = some v) : Rs (old W) (some a) xs := by
  cases xs with
  | nil => exact rs_nil
  | cons x l =>
    obtain ⟨b, off, spot⟩ := a
    have h0 := h 0 x rfl
    have hspot : spot = none := by simpa [Addr.add] using World.cell?_spot h0
    subst hspot
    refine fun g w hs i v hv => ⟨b, off, rfl, ?_⟩
    have := h i v hv
    rw [WideShapes.add_plain] at this
    exact cell_old' this g w hs
/-- Whatever lies there as a value of type t, by the argument's own reading, r holds of. -/
def Rdb {α : Type} (P : Program) (W : World) (t : TypeId) (r : List Value → α → Prop) : Prop :=
  ∀ (H : Type) (enc : TypeId × Value → H) (spare : Nat → Bool) (held : Bool) (fuel : Nat) (cs : List Value) (d : DataW H) (pl : List MemPlace),
    DataW.trod enc P W 0 spare held fuel t cs = some (d, pl) → (∀ n ∈ d.weights P t, n ≤ reachBytes) → ∃ x, r cs x
theorem Rdb.mono {α β : Type} {P : Program} {W : World} {t : TypeId} {r : List Value → α → Prop} {q : List Value → β → Prop} (h : Rdb P W t r) (k : ∀ cs x, r cs x → ∃ y, q cs y) : Rdb P W t q :=
  fun H enc sp hd fu cs d pl h1 h2 => by obtain ⟨x, hx⟩ := h H enc sp hd fu cs d pl h1 h2; exact k cs x hx
def PInt (k : IntKind) (cs : List Value) (n : Int) : Prop := cs = [.int k n] ∧ (Lit.int k n).wf = true
theorem rdb_int {P : Program} {W : World} {t : TypeId} {k : IntKind} (ht : P.underlying t = some (.int k)) : Rdb P W t (PInt k) := fun H enc sp hd fu cs d pl h _ => by
  obtain ⟨n, e, _, hw⟩ := DataW.trod_int ht h
  exact ⟨n, e, hw⟩
def PBool (cs : List Value) (b : Bool) : Prop := cs = [.bool b]
/-- A slice: its elements' cells, and what each is. -/
def PSl {α : Type} (A : SP) (k b : Nat) (r : List Value → α → Prop) (cs : List Value) (xs : List α) : Prop :=
  ∃ (a : Option Addr) (cap : Nat) (Cs : List (List Value)), cs = [.slice a xs.length cap] ∧ xs.length ≤ cap ∧ xs.length * b ≤ reachBytes ∧ Cs.length = xs.length ∧ (∀ i (h : i < xs.length) (h' : i < Cs.length), Cs[i].length = k ∧ r Cs[i] xs[i]) ∧ Rs A a Cs.flatten
theorem weightsAll_mem {H : Type} {P : Program} {e : TypeId} : ∀ {l : List (DataW H)} {d : DataW H}, d ∈ l → ∀ n ∈ d.weights P e, n ∈ DataW.weightsAll P e l
  | x :: l, d, h, n, hn => by
    simp only [DataW.weightsAll, List.mem_append]
    rcases List.mem_cons.1 h with rfl | h
    · exact .inl hn
    · exact .inr (weightsAll_mem h n hn)
theorem flat_at {k : Nat} : ∀ {Cs : List (List Value)} (_ : ∀ c ∈ Cs, c.length = k) {i j : Nat} (_ : j < k) (hi : i < Cs.length), Cs.flatten[i * k + j]? = Cs[i][j]?
  | c :: Cs, h, 0, j, hj, _ => by
    rw [Nat.zero_mul, Nat.zero_add, List.flatten_cons, List.getElem?_append_left (by rw [h c (by simp)]; exact hj)]; rfl
  | c :: Cs, h, i + 1, j, hj, hi => by
    have hc := h c (by simp)
    rw [List.flatten_cons, List.getElem?_append_right (by rw [hc, Nat.add_mul]; omega), hc, show (i + 1) * k + j - k = i * k + j by rw [Nat.add_mul]; omega]
    exact flat_at (fun x hx => h x (List.mem_cons_of_mem _ hx)) hj (by simpa using hi)
theorem flat_length {k : Nat} : ∀ {Cs : List (List Value)} (_ : ∀ c ∈ Cs, c.length = k), Cs.flatten.length = Cs.length * k
  | [], _ => by simp
  | c :: Cs, h => by
    rw [List.flatten_cons, List.length_append, h c (by simp), flat_length (fun x hx => h x (List.mem_cons_of_mem _ hx)), List.length_cons, Nat.add_mul]; omega
theorem rdb_slice {α : Type} {P : Program} {W : World} {t e : TypeId} {k b : Nat} {r : List Value → α → Prop} (ht : P.underlying t = some (.slice e)) (hk : P.cellsOf e = k) (hb : P.bytesOf e = b) (hk0 : 0 < k) (hr : Rdb P W e r) : Rdb P W t (PSl (old W) k b r) := fun H enc sp hd fu cs d pl h hw => by
  rcases Deep.open_slice ht h with ⟨rfl, _⟩ | ⟨a, len, cap, m, n, D, Pl, rfl, _, hl, _, hm, hx, hel⟩
  · exact ⟨[], none, 0, [], rfl, Nat.le_refl _, by simp, rfl, fun i h => by simp at h, rs_nil⟩
  · have hlm : len ≤ m := by rw [hm]; split <;> omega
    simp only [Prod.mk.injEq] at hx
    obtain ⟨rfl, _⟩ := hx
    have hall : ∀ n ∈ DataW.weights P t (DataW.slice ((List.range len).map D) ((List.range (m - len)).map fun j => D (len + j))), n ≤ reachBytes := hw
    have hw1 : (len + (m - len)) * P.bytesOf e ≤ reachBytes := by
      have := hall ((len + (m - len)) * P.bytesOf e) (by simp [DataW.weights, ht])
      exact this
    have hex : ∀ i, i < len → ∃ p : List Value × α, p.1.length = k ∧ r p.1 p.2 ∧ ∀ j v, p.1[j]? = some v → W.cell? (a.add (i * k + j)) = some v := fun i hi => by
      obtain ⟨cs', h1, h2⟩ := hel i (by omega)
      rw [hk] at h1
      obtain ⟨_, hlen, h3⟩ := World.cells?_some h1
      obtain ⟨x, hx⟩ := hr H enc sp hd n cs' (D i) (Pl i) h2 (fun n hn => hall n (by
        simp only [DataW.weights, ht, List.mem_cons, List.mem_append]
        refine .inr (.inl (weightsAll_mem (d := D i) ?_ n hn))
        exact List.mem_map.2 ⟨i, List.mem_range.2 hi, rfl⟩))
      refine ⟨(cs', x), hlen, hx, fun j v hv => ?_⟩
      have hj : j < k := by have h9 : j < cs'.length := lt_at hv; omega
      have := h3 j hj
      rw [Deep.add_add] at this
      rw [this, hv]
    rcases Nat.eq_zero_or_pos len with h0 | h0
    · subst h0
      exact ⟨[], some a, cap, [], rfl, Nat.zero_le _, by simp, rfl, fun i h => by simp at h, rs_nil⟩
    · obtain ⟨p0, _⟩ := hex 0 h0
      haveI : Inhabited (List Value × α) := ⟨p0⟩
      obtain ⟨f, hf⟩ := Deep.choose_lt hex
      refine ⟨(List.range len).map fun i => (f i).2, some a, cap, (List.range len).map fun i => (f i).1, by simp, by simpa using hl, ?_, by simp, fun i h h' => ?_, rs_old fun i v hv => ?_⟩
      · simp only [List.length_map, List.length_range, ← hb]
        exact Nat.le_trans (Nat.mul_le_mul_right _ (by omega)) hw1
      · simp only [List.length_map, List.length_range] at h
        simp only [List.getElem_map, List.getElem_range]
        exact ⟨(hf i h).1, (hf i h).2.1⟩
      · have hCk : ∀ c ∈ (List.range len).map fun i => (f i).1, c.length = k := fun c hc => by
          obtain ⟨i, hi, rfl⟩ := List.mem_map.1 hc
          exact (hf i (List.mem_range.1 hi)).1
        have hi := lt_at hv
        rw [flat_length hCk, List.length_map, List.length_range] at hi
        have hq : i / k < len := Nat.div_lt_of_lt_mul (by rw [Nat.mul_comm]; exact hi)
        have hm2 : i % k < k := Nat.mod_lt _ hk0
        have e : i = i / k * k + i % k := (Nat.div_add_mod' i k).symm
        rw [e, flat_at hCk hm2 (by simpa using hq)] at hv
        simp only [List.getElem_map, List.getElem_range] at hv
        rw [e]
        exact (hf (i / k) hq).2.2 _ v hv
/-- The fields of a struct, one by one. -/
theorem rdb_fields {P : Program} {W : World} {t : TypeId} {fs : Array Field} (ht : P.underlying t = some (.struct fs)) {H : Type} {enc : TypeId × Value → H} {sp : Nat → Bool} {hd : Bool} {fu : Nat} {cs : List Value} {d : DataW H} {pl : List MemPlace}
    (h : DataW.trod enc P W 0 sp hd fu t cs = some (d, pl)) (hw : ∀ n ∈ d.weights P t, n ≤ reachBytes) : cs.length = P.cellsOf t ∧
    ∀ (j : Nat) (f : Field), fs[j]? = some f → ∀ {α : Type} {r : List Value → α → Prop}, Rdb P W f.type r → ∃ x, r ((cs.drop f.offset).take (P.cellsOf f.type)) x := by
  obtain ⟨xs, n, _, hx, hl, hlen, hf⟩ := DataW.trod_struct ht h
  refine ⟨hl, fun j f hj α r hr => ?_⟩
  simp only [Prod.mk.injEq] at hx
  obtain ⟨rfl, _⟩ := hx
  have hj' : j < xs.length := by
    have h1 : j < fs.size := (Array.getElem?_eq_some_iff.1 hj).1
    have h2 : xs.length = fs.size := by simpa using hlen
    omega
  have := hf j f hj
  rw [List.getElem?_eq_getElem hj'] at this
  refine hr H enc sp hd n _ xs[j].1 xs[j].2 this (fun m hm => hw m ?_)
  simp only [DataW.weights, ht]
  exact DataW.weights_mem_each (ts := fs.toList.map (·.type)) (ds := xs.map (·.1)) (j := j) (t := f.type) (d := xs[j].1) (by simp [hj]) (by simp [hj']) m hm
/-- Bytes. -/
def PBys (A : SP) (cs : List Value) (xs : List Nat) : Prop := ∃ a cap, cs = [.slice a xs.length cap] ∧ xs.length ≤ cap ∧ xs.length ≤ 140737488351232 ∧ Rs A a (bys xs) ∧ ∀ x ∈ xs, x < 256
def PInts (A : SP) (cs : List Value) (xs : List Int) : Prop := ∃ a cap, cs = [.slice a xs.length cap] ∧ xs.length ≤ cap ∧ xs.length ≤ 17592186043904 ∧ Rs A a (ints xs) ∧ ∀ x ∈ xs, -9223372036854775808 ≤ x ∧ x ≤ 9223372036854775807
theorem i64_wf {x : Int} (h : (Lit.int .i64 x).wf = true) : -9223372036854775808 ≤ x ∧ x ≤ 9223372036854775807 := Go.bounds_i64 h
end Go.Vl

set_option linter.unusedVariables false
set_option linter.unusedSimpArgs false
namespace Go.Vl
open Go Go.Proofs
abbrev ub {H : Type} (d : DataW H) : Nat := Go.Proofs.Ytnkeepjpkdjcdaa.Rows.uptoBulk d
abbrev ubs {H : Type} (l : List (DataW H)) : Nat := Go.Proofs.Ytnkeepjpkdjcdaa.Rows.uptoBulkAll l
/-- Whatever lies there as a value of type t, by the argument's own reading, r holds of, and of how much. -/
def Rdu {α : Type} (P : Program) (W : World) (t : TypeId) (r : List Value → α → Prop) (sz : α → Nat) : Prop :=
  ∀ (H : Type) (enc : TypeId × Value → H) (spare : Nat → Bool) (held : Bool) (fuel : Nat) (cs : List Value) (d : DataW H) (pl : List MemPlace),
    DataW.trod enc P W 0 spare held fuel t cs = some (d, pl) → ∃ x, r cs x ∧ sz x ≤ ub d
theorem Rdu.mono {α β : Type} {P : Program} {W : World} {t : TypeId} {r : List Value → α → Prop} {s : α → Nat} {q : List Value → β → Prop} {z : β → Nat} (h : Rdu P W t r s) (k : ∀ cs x, r cs x → ∃ y, q cs y ∧ z y ≤ s x) : Rdu P W t q z :=
  fun H enc sp hd fu cs d pl h1 => by
    obtain ⟨x, hx, hs⟩ := h H enc sp hd fu cs d pl h1
    obtain ⟨y, hy, hz⟩ := k cs x hx
    exact ⟨y, hy, by omega⟩
/-- A slice: its elements' cells, and what each is. -/
def PSu {α : Type} (A : SP) (k : Nat) (r : List Value → α → Prop) (cs : List Value) (xs : List α) : Prop :=
  ∃ (a : Option Addr) (cap : Nat) (Cs : List (List Value)), cs = [.slice a xs.length cap] ∧ xs.length ≤ cap ∧ Cs.length = xs.length ∧ (∀ i (h : i < xs.length) (h' : i < Cs.length), Cs[i].length = k ∧ r Cs[i] xs[i]) ∧ Rs A a Cs.flatten
def szL {α : Type} (sz : α → Nat) (xs : List α) : Nat := (xs.map sz).sum + 1
/-- Bytes. -/
def PByU (A : SP) (cs : List Value) (xs : List Nat) : Prop := ∃ a cap, cs = [.slice a xs.length cap] ∧ xs.length ≤ cap ∧ Rs A a (bys xs) ∧ ∀ x ∈ xs, x < 256
def PInU (A : SP) (cs : List Value) (xs : List Int) : Prop := ∃ a cap, cs = [.slice a xs.length cap] ∧ xs.length ≤ cap ∧ Rs A a (ints xs) ∧ ∀ x ∈ xs, -9223372036854775808 ≤ x ∧ x ≤ 9223372036854775807
end Go.Vl

set_option linter.unusedVariables false
set_option linter.unusedSimpArgs false
namespace Go.Vl
open Go Go.Proofs
theorem Setw {A : SP} {a : Option Addr} {c n : Nat} {l : List Mk} {X : List Mk} {er : Int} {m : Mk} (hX : setS l m = (X, er)) (hr : Rs A a (mcs l) := by repeat (first | with_reducible exact rs_sl | assumption | apply Rs.left)) (hm : l.length = n := by first | assumption | rfl)  (hs : n ≤ 1125899906842 := by omega) : Fn Try.prog 21 #[.slice a n c, .agg m.cells.toArray] A (fun r B => ∃ a2 c2, r = .tuple #[.slice a2 X.length c2, .int .i64 er] ∧ X.length ≤ c2 ∧ B = A * Sl 3 (.slice a2 X.length c2) X.length (mcs X)) := by
  have h := Set_c (A := A) (a := a) (c := c) (l := l) (m := m) hr hm hs
  rw [hX] at h
  exact h
theorem Shiftw {A : SP} {a : Option Addr} {c n : Nat} {l : List Mk} {X : List Mk} {er : Int} {e : Ed} (hX : shiftS l e = (X, er)) (hr : Rs A a (mcs l) := by repeat (first | with_reducible exact rs_sl | assumption | apply Rs.left)) (hm : l.length = n := by first | assumption | rfl) (hW : ∀ x ∈ l, MkW x := by assumption) (hE : EdW e := by assumption) (hs : n ≤ 1125899906842 := by omega) : Fn Try.prog 12 #[.slice a n c, .agg e.cells.toArray] A (fun r B => ∃ a2 c2, r = .tuple #[.slice a2 X.length c2, .int .i64 er] ∧ X.length ≤ c2 ∧ B = A * Sl 3 (.slice a2 X.length c2) X.length (mcs X)) := by
  have h := Shift_c (A := A) (a := a) (c := c) (l := l) (e := e) hr hm hW hE hs
  rw [hX] at h
  exact h
def rm40 (i : Nat) : List Mk := (List.range i).map fun j => ⟨99, (j : Nat), 7⟩
attribute [local irreducible] Sl pt ro SlB
theorem setW1 : setS [⟨3, 3, 1⟩] ⟨2, 3, 0⟩ = ([⟨2, 3, 0⟩, ⟨3, 3, 1⟩], 0) := by
  simp [setS, mayS, okM, outM, srt, mg_cons, mg_nil_l, mg_nil_r, ltc, cId]
theorem shiftW1 : shiftS [⟨2, 3, 0⟩, ⟨3, 3, 1⟩] ⟨3, 0, 2⟩ = ([⟨2, 3, 0⟩, ⟨3, 5, 1⟩], 0) := by
  simp [shiftS, mayS, okM, edMay, gnM, goneS, mvM, srt, mg_cons, mg_nil_l, mg_nil_r, ltc, cId]
theorem mayW1 : mayS [⟨2, 3, 0⟩, ⟨3, 5, 1⟩] = 0 := by simp [mayS, okM]
theorem checkW1 : checkS [⟨2, 3, 0⟩, ⟨3, 5, 1⟩] 5 = 0 := by simp [checkS, mayS, okM]
theorem checkW2 : checkS [⟨2, 3, 0⟩, ⟨3, 5, 1⟩] 4 = 190 := by simp [checkS, mayS, okM]
theorem packW1 : (packS [⟨2, 3, 0⟩, ⟨3, 5, 1⟩]).2 = 0 := by unfold packS; rw [mayW1]; rfl
theorem packW2 : (packS [⟨2, 3, 0⟩, ⟨3, 5, 1⟩]).1.size = 32 := by
  unfold packS; rw [mayW1, if_neg (by decide)]
  show (sob _).size = 32
  simp [sob, ByteArray.size, pkS_len, srt_length cId_swo]
set_option maxRecDepth 20000 in
set_option maxHeartbeats 2000000 in
theorem worksM_c {A : SP} :
    Fn Try.prog 15 #[] (A) (fun r B => r = .bool true ∧ A = B) := by
  refine fn_enterW (args := []) Try.func15 rfl Try.ntmps15 (by simp) ?_; refine sr ?_; refine tla ?_; refine nq ?_; refine sr ?_; refine tv (o_bS (l := [_, _, _]) (pv_cons (by conv => lhs; whnf) (pv_cons (by conv => lhs; whnf) (pv_cons (by conv => lhs; whnf) pv_nil))) Try.underlying35 z35 (pl35 Try.underlying35) rfl) ?_; refine tl_x rfl (o_buildSliceK (k := 3) (l := (Mk.mk 3 3 1).cells) Try.underlying22 sz35 z35 rfl rfl (by decide)) ?_; rintro _ _ ⟨b9, rfl, rfl⟩; refine tv (o_bS (l := [_, _, _]) (pv_cons (by conv => lhs; whnf) (pv_cons (by conv => lhs; whnf) pv_nil)) Try.underlying35 z35 (pl35 Try.underlying35) rfl) ?_; refine tl_c rfl (o_call bd21 rfl (Setw (l := [⟨3, 3, 1⟩]) (m := ⟨2, 3, 0⟩) (n := 1) setW1 (hr := (show Rs _ _ (Mk.mk 3 3 1).cells from rs_pt rfl)))) ?_; rintro _ _ ⟨a11, c11, rfl, hc11, rfl⟩; refine tlm ?_; refine tv (o_extract rfl rfl) ?_; refine tv (o_extract rfl rfl) ?_; refine tla ?_; refine tla ?_; refine nq ?_; refine sr ?_; refine tlm ?_; refine tv (o_bS (l := [_, _, _]) (pv_cons (by conv => lhs; whnf) (pv_cons (by conv => lhs; whnf) pv_nil)) Try.underlying24 z24 (pl24 Try.underlying24) rfl) ?_; refine tl_c rfl (o_call bd12 rfl (Shiftw (l := [⟨2, 3, 0⟩, ⟨3, 3, 1⟩]) (e := ⟨3, 0, 2⟩) (n := 2) shiftW1 (hW := by intro x hx; simp at hx; rcases hx with rfl | rfl <;> exact ⟨by decide, by decide, by decide⟩) (hE := ⟨by decide, by decide, by decide⟩))) ?_
  rintro _ _ ⟨a17, c17, rfl, hc17, rfl⟩; refine tlm ?_; refine tv (o_extract rfl rfl) ?_; refine tv (o_extract rfl rfl) ?_; refine tla ?_; refine tla ?_; refine nq ?_; refine sr ?_; refine tlm ?_; refine tl_c rfl (o_call bd27 rfl (Pack_c (l := [⟨2, 3, 0⟩, ⟨3, 5, 1⟩]) (n := 2) (hW := by intro x hx; simp at hx; rcases hx with rfl | rfl <;> exact ⟨by decide, by decide, by decide⟩))) ?_; rintro _ _ ⟨rfl, rfl⟩; refine tlm ?_; refine tv (o_extract rfl rfl) ?_; refine tv (o_extract rfl rfl) ?_; refine tl_env (d := 24) (v := .int .i64 0) (by show Value.int .i64 _ = _; rw [packW1]) ?_; refine tla ?_; refine tla ?_; refine nq ?_; refine sr ?_; refine tlm ?_; refine tv (o_eqi rfl rfl) ?_; refine tlm ?_; refine tl_bool (d := 27) rfl (fun h => ?_) (fun h => ?_)
  · try simp only [lv1, lv2, lv3, lv4, lv5, lv6, Bool.not_true, Bool.not_false] at h
    refine tlm ?_; refine tv (o_eqi rfl rfl) ?_; refine tv (o_pick_t rfl (by conv => lhs; whnf)) ?_; refine tlm ?_; refine tl_bool (d := 31) rfl (fun h => ?_) (fun h => ?_)
    · try simp only [lv1, lv2, lv3, lv4, lv5, lv6, Bool.not_true, Bool.not_false] at h
      refine tlm ?_; refine tv (o_eqi rfl rfl) ?_; refine tv (o_pick_t rfl (by conv => lhs; whnf)) ?_; refine tlm ?_; refine tl_bool (d := 35) rfl (fun h => ?_) (fun h => ?_)
      · try simp only [lv1, lv2, lv3, lv4, lv5, lv6, Bool.not_true, Bool.not_false] at h
        refine tlm ?_; refine tv (o_len Try.underlying22 rfl) ?_; refine tv (o_eqi rfl rfl) ?_; refine tv (o_pick_t rfl (by conv => lhs; whnf)) ?_; refine tlm ?_; refine tl_bool (d := 40) rfl (fun h => ?_) (fun h => ?_)
        · try simp only [lv1, lv2, lv3, lv4, lv5, lv6, Bool.not_true, Bool.not_false] at h
          refine tlm ?_; refine tv (o_ixP Try.underlying22 sz35 rfl rfl (by decide) (by repeat (first | exact nn_sl (by decide) | apply Nn.left))) ?_; refine tv (o_ldPN (vs := (Mk.mk 2 3 0).cells) a35 sz35 rfl (by repeat (first | with_reducible exact rs_sl | apply Rs.left)) rfl rfl (by decide)) ?_; refine tv (o_bS (l := [_, _, _]) (pv_cons (by conv => lhs; whnf) (pv_cons (by conv => lhs; whnf) pv_nil)) Try.underlying35 z35 (pl35 Try.underlying35) rfl) ?_; refine tv (o_eqMk (a := ⟨2, 3, 0⟩) (b := ⟨2, 3, 0⟩) rfl rfl) ?_; refine tv (o_pick_t rfl (by conv => lhs; whnf)) ?_; refine tlm ?_; refine tl_bool (d := 47) rfl (fun h => ?_) (fun h => ?_)
          · try simp only [lv1, lv2, lv3, lv4, lv5, lv6, Bool.not_true, Bool.not_false] at h
            refine tlm ?_; refine tv (o_ixP Try.underlying22 sz35 rfl rfl (by decide) (by repeat (first | exact nn_sl (by decide) | apply Nn.left))) ?_; refine tv (o_ldPN (vs := (Mk.mk 3 5 1).cells) a35 sz35 rfl (by repeat (first | with_reducible exact rs_sl | apply Rs.left)) rfl rfl (by decide)) ?_; refine tv (o_bS (l := [_, _, _]) (pv_cons (by conv => lhs; whnf) (pv_cons (by conv => lhs; whnf) (pv_cons (by conv => lhs; whnf) pv_nil))) Try.underlying35 z35 (pl35 Try.underlying35) rfl) ?_; refine tv (o_eqMk (a := ⟨3, 5, 1⟩) (b := ⟨3, 5, 1⟩) rfl rfl) ?_; refine tv (o_pick_t rfl (by conv => lhs; whnf)) ?_; refine tlm ?_; refine tl_bool (d := 54) rfl (fun h => ?_) (fun h => ?_)
            · try simp only [lv1, lv2, lv3, lv4, lv5, lv6, Bool.not_true, Bool.not_false] at h
              refine tlm ?_; refine tv (o_lenS Try.underlying9 rfl) ?_; refine tl_env (d := 56) (v := .int .i64 ((32 : Nat) : Int)) (by show Value.int .i64 ((ByteArray.size _ : Nat) : Int) = _; rw [packW2]) ?_; refine tv (o_eqi rfl rfl) ?_; refine tv (o_pick_t rfl (by conv => lhs; whnf)) ?_; refine tlm ?_; refine tl_bool (d := 59) rfl (fun h => ?_) (fun h => ?_)
              · try simp only [lv1, lv2, lv3, lv4, lv5, lv6, Bool.not_true, Bool.not_false] at h
                refine tlm ?_; refine tl_c rfl (o_call bd18 rfl (Check_c (l := [⟨2, 3, 0⟩, ⟨3, 5, 1⟩]) (n := 2) (z := 5))) ?_; rintro _ _ ⟨rfl, rfl⟩; refine tl_env (d := 61) (v := .int .i64 0) (by show Value.int .i64 _ = _; rw [checkW1]) ?_; refine tv (o_eqi rfl rfl) ?_; refine tv (o_pick_t rfl (by conv => lhs; whnf)) ?_; refine tlm ?_; refine tl_bool (d := 64) rfl (fun h => ?_) (fun h => ?_)
                · try simp only [lv1, lv2, lv3, lv4, lv5, lv6, Bool.not_true, Bool.not_false] at h
                  refine tlm ?_; refine tl_c rfl (o_call bd18 rfl (Check_c (l := [⟨2, 3, 0⟩, ⟨3, 5, 1⟩]) (n := 2) (z := 4))) ?_; rintro _ _ ⟨rfl, rfl⟩; refine tl_env (d := 66) (v := .int .i64 190) (by show Value.int .i64 _ = _; rw [checkW2]) ?_; refine tv (o_eqi rfl rfl) ?_; refine tv (o_pick_t rfl (by conv => lhs; whnf)) ?_; refine tla ?_; refine nq ?_; refine tc_ret ?_; refine ⟨.bool true, _, res1 rfl rfl, ?_, rfl, rfl⟩; exact Dr.sat (by repeat (first | with_reducible exact dr_refl | apply dr_keep | apply dr_drop))
                · exfalso; simp at h
              · exfalso; simp at h
            · exfalso; simp at h
          · exfalso; simp at h
        · exfalso; simp at h
      · exfalso; simp at h
    · exfalso; simp at h
  · exfalso; simp at h
end Go.Vl

set_option linter.unusedVariables false
set_option linter.unusedSimpArgs false
namespace Go.Vl
open Go Go.Proofs
def smS (n : Int) : Nat := n.natAbs % 1099511627776
theorem smS_lt (n : Int) : smS n < 1099511627776 := Nat.mod_lt _ (by decide)
theorem tm_small (n : Int) : n.tmod 1099511627776 = if 0 ≤ n then (smS n : Int) else -(smS n : Int) := by
  cases n with
  | ofNat a => rw [if_pos (show 0 ≤ Int.ofNat a from Int.natCast_nonneg a)]; rfl
  | negSucc a => rw [if_neg (show ¬ 0 ≤ Int.negSucc a by omega)]; rfl
def rtE (e : Ed) : Ed := ⟨smS e.at_, smS e.out, smS e.inn⟩
def fwM (i : Nat) (m : Mk) : Mk := ⟨i, smS m.at_, m.gr % 2⟩
def fwL (l : List Mk) : List Mk := l.mapIdx fwM
theorem fwL_snoc (l : List Mk) (x : Mk) : fwL (l ++ [x]) = fwL l ++ [fwM l.length x] := by unfold fwL; rw [List.mapIdx_append]; simp
/-- Marks that may be, in order, none far. -/
structure Few (b : Int) (L : List Mk) : Prop where
  len : L.length ≤ 32
  at_ : ∀ i (h : i < L.length), L[i].id = i ∧ 0 ≤ L[i].at_ ∧ L[i].at_ < b ∧ L[i].gr < 2
theorem fw_few (l : List Mk) (h : l.length ≤ 32) : Few 1099511627776 (fwL l) := by
  refine ⟨by unfold fwL; rw [List.length_mapIdx]; exact h, fun i hi => ?_⟩
  unfold fwL at hi ⊢
  rw [List.length_mapIdx] at hi
  rw [List.getElem_mapIdx]
  have := smS_lt l[i].at_
  exact ⟨rfl, by show (0 : Int) ≤ (smS _ : Int); omega, by show (smS _ : Int) < _; omega, Nat.mod_lt _ (by decide)⟩
theorem Few.may {b : Int} {L : List Mk} (h : Few b L) : mayS L = 0 := by
  refine may_ok h.len (List.all_eq_true.2 fun x hx => ?_) ?_
  · obtain ⟨i, hi, rfl⟩ := List.mem_iff_getElem.1 hx
    obtain ⟨_, h1, _, h2⟩ := h.at_ i hi
    unfold okM; rw [decide_eq_true h1, decide_eq_true (by omega)]; rfl
  · rw [List.Nodup, List.pairwise_iff_getElem]
    intro i j hi hj hij
    rw [List.length_map] at hi hj
    rw [List.getElem_map, List.getElem_map, (h.at_ i hi).1, (h.at_ j hj).1]
    omega
theorem Few.srt {b : Int} {L : List Mk} (h : Few b L) : srt (ltc cId) L = L := by
  refine (srt_of cId_swo ⟨?_, fun _ => rfl⟩).symm
  unfold Sd
  rw [List.pairwise_iff_getElem]
  intro i j hi hj hij
  rw [cId_neg, (h.at_ i hi).1, (h.at_ j hj).1]
  simp; omega
theorem Few.mono {b c : Int} {L : List Mk} (h : Few b L) (hc : b ≤ c) : Few c L := ⟨h.len, fun i hi => by have := h.at_ i hi; exact ⟨this.1, this.2.1, by omega, this.2.2.2⟩⟩
structure Near (b : Int) (e : Ed) : Prop where
  a : 0 ≤ e.at_ ∧ e.at_ ≤ b
  o : 0 ≤ e.out ∧ e.out ≤ b
  i : 0 ≤ e.inn ∧ e.inn ≤ b
/-- Where a mark goes, told by cases. -/
def Went (e : Ed) (x y : Mk) : Prop := y.id = x.id ∧ y.gr = x.gr ∧ ((x.at_ < e.at_ ∧ y.at_ = x.at_) ∨ (e.at_ ≤ x.at_ ∧ e.at_ + e.out < x.at_ ∧ y.at_ = x.at_ - e.out + e.inn) ∨ (e.at_ ≤ x.at_ ∧ x.at_ ≤ e.at_ + e.out ∧ x.gr = 1 ∧ y.at_ = e.at_ + e.inn) ∨ (e.at_ ≤ x.at_ ∧ x.at_ ≤ e.at_ + e.out ∧ x.gr ≠ 1 ∧ y.at_ = e.at_))
theorem mv_went {b : Int} {e : Ed} {x : Mk} (hb : b ≤ 1000000000000000000) (he : Near 1000000000000000000 e) (h0 : 0 ≤ x.at_) (hx : x.at_ < b) : (gnM e x).isSome = true ∧ Went e x (mvM e x) := by
  obtain ⟨⟨a1, a2⟩, ⟨o1, o2⟩, i1, i2⟩ := he
  by_cases c1 : x.at_ < e.at_
  · have hg : gnM e x = some x.at_ := by unfold gnM goneS; rw [if_pos c1]
    exact ⟨by rw [hg]; rfl, by rw [mv_of hg]; exact ⟨rfl, rfl, .inl ⟨c1, rfl⟩⟩⟩
  · by_cases c2 : e.at_ + e.out < x.at_
    · have hg : gnM e x = some (x.at_ - e.out + e.inn) := by unfold gnM goneS; rw [if_neg c1, if_pos c2, if_neg (by omega)]
      exact ⟨by rw [hg]; rfl, by rw [mv_of hg]; exact ⟨rfl, rfl, .inr (.inl ⟨by omega, c2, rfl⟩)⟩⟩
    · by_cases c3 : x.gr = 1
      · have hg : gnM e x = some (e.at_ + e.inn) := by unfold gnM goneS; rw [if_neg c1, if_neg c2, if_pos (decide_eq_true c3)]
        exact ⟨by rw [hg]; rfl, by rw [mv_of hg]; exact ⟨rfl, rfl, .inr (.inr (.inl ⟨by omega, by omega, c3, rfl⟩))⟩⟩
      · have hg : gnM e x = some e.at_ := by unfold gnM goneS; rw [if_neg c1, if_neg c2, if_neg (by simpa using c3)]
        exact ⟨by rw [hg]; rfl, by rw [mv_of hg]; exact ⟨rfl, rfl, .inr (.inr (.inr ⟨by omega, by omega, c3, rfl⟩))⟩⟩
theorem few_shift {b : Int} {L : List Mk} {e : Ed} (h : Few b L) (hb : b ≤ 1000000000000000000) (he : Near 1000000000000000000 e) : shiftS L e = (L.map (mvM e), 0) ∧ (∀ i (hi : i < L.length), Went e L[i] (mvM e L[i])) := by
  have hw : ∀ x ∈ L, (gnM e x).isSome = true ∧ Went e x (mvM e x) := fun x hx => by
    obtain ⟨i, hi, rfl⟩ := List.mem_iff_getElem.1 hx
    exact mv_went hb he (h.at_ i hi).2.1 (h.at_ i hi).2.2.1
  refine ⟨?_, fun i hi => (hw _ (List.getElem_mem hi)).2⟩
  have hem : edMay e = true := by
    obtain ⟨⟨a1, a2⟩, ⟨o1, o2⟩, i1, i2⟩ := he
    unfold edMay; exact decide_eq_true (by omega)
  unfold shiftS
  rw [if_neg (by rw [h.may]; decide), if_neg (by rw [hem]; decide), h.srt, if_pos (List.all_eq_true.2 fun x hx => (hw x hx).1)]
theorem Few.map {b c : Int} {L : List Mk} {e : Ed} (h : Few b L) (hw : ∀ i (hi : i < L.length), Went e L[i] (mvM e L[i])) (he : Near 1000000000000000000 e) (hc : ∀ x y : Mk, 0 ≤ x.at_ → x.at_ < b → Went e x y → y.at_ < c) : Few c (L.map (mvM e)) := by
  refine ⟨by rw [List.length_map]; exact h.len, fun i hi => ?_⟩
  rw [List.length_map] at hi
  rw [List.getElem_map]
  obtain ⟨h1, h2, h3, h4⟩ := h.at_ i hi
  obtain ⟨w1, w2, w3⟩ := hw i hi
  obtain ⟨⟨a1, a2⟩, ⟨o1, o2⟩, i1, i2⟩ := he
  exact ⟨by rw [w1, h1], by omega, hc _ _ h2 h3 (hw i hi), by omega⟩
theorem Few.mkw {b : Int} {L : List Mk} (h : Few b L) (hb : b ≤ 1000000000000000000) : ∀ x ∈ L, MkW x := fun x hx => by
  obtain ⟨i, hi, rfl⟩ := List.mem_iff_getElem.1 hx
  obtain ⟨h1, h2, h3, h4⟩ := h.at_ i hi
  have := h.len
  exact ⟨by omega, by omega, by omega⟩
theorem Near.w {e : Ed} (h : Near 1000000000000000000 e) : EdW e := ⟨by have := h.a; omega, by have := h.o; omega, by have := h.i; omega⟩
theorem rt_near (e : Ed) : Near 1099511627775 (rtE e) := by
  have h1 := smS_lt e.at_
  have h2 := smS_lt e.out
  have h3 := smS_lt e.inn
  exact ⟨by show (0 : Int) ≤ (smS _ : Int) ∧ (smS _ : Int) ≤ _; omega, by show (0 : Int) ≤ (smS _ : Int) ∧ (smS _ : Int) ≤ _; omega, by show (0 : Int) ≤ (smS _ : Int) ∧ (smS _ : Int) ≤ _; omega⟩
theorem Near.mono {b c : Int} {e : Ed} (h : Near b e) (hc : b ≤ c) : Near c e := ⟨by have := h.a; omega, by have := h.o; omega, by have := h.i; omega⟩
attribute [local irreducible] Sl pt ro SlB
set_option maxRecDepth 20000 in
set_option maxHeartbeats 2000000 in
theorem small_c {A : SP} {n : Int} (hn : -9223372036854775808 ≤ n ∧ n ≤ 9223372036854775807 := by first | assumption | omega) :
    Fn Try.prog 19 #[.int .i64 n] (A) (fun r B => r = .int .i64 (smS n : Nat) ∧ A = B) := by
  refine fn_enterW (args := [.int .i64 n]) Try.func19 rfl Try.ntmps19 (by simp) ?_
  have hsl := smS_lt n
  have htm := tm_small n
  refine sr ?_; refine tla ?_; refine nq ?_; refine sr ?_; refine tlm ?_; refine tv (o_rem rfl rfl (by decide)) ?_; refine tla ?_; refine nq ?_; refine tc_seq ?_; refine sr ?_; refine tlm ?_; refine tv (o_lss rfl rfl) ?_; refine nq ?_; refine tc_cond rfl (fun h => ?_) (fun h => ?_)
  · have hneg : n.tmod 1099511627776 < 0 := by first | exact of_decide_eq_true h | exact h | simpa using h
    have hn0 : ¬ 0 ≤ n := fun hc => by rw [if_pos hc] at htm; omega
    rw [if_neg hn0] at htm
    refine tc_reg ?_; refine tlm ?_; refine tv (o_neg rfl) ?_; refine tl_env (d := 8) (v := .int .i64 (smS n : Nat)) (by show Value.int .i64 (IntKind.i64.wrap (0 - n.tmod 1099511627776)) = _; rw [htm, show (0 : Int) - -(smS n : Int) = (smS n : Nat) by omega, wrap_i64 (by omega)]) ?_; refine tla ?_; refine nq ?_; refine sr ?_; refine tlm ?_; refine tla ?_; refine nq ?_; refine tc_ret ?_; refine ⟨.int .i64 (smS n : Nat), _, res1 rfl rfl, ?_, rfl, rfl⟩; exact Dr.sat (by repeat (first | with_reducible exact dr_refl | apply dr_keep | apply dr_drop))
  · have hneg : ¬ n.tmod 1099511627776 < 0 := by first | exact of_decide_eq_false h | exact h | simpa using h
    have htm2 : n.tmod 1099511627776 = (smS n : Int) := by rw [htm]; split at htm <;> omega
    refine tc_skip ?_; refine q_then_n ?_; refine sr ?_; refine tlm ?_; refine tla ?_; refine nq ?_; refine tc_ret ?_; exact ⟨.int .i64 (n.tmod 1099511627776), A, res1 rfl rfl, Dr.sat (by repeat (first | with_reducible exact dr_refl | apply dr_keep | apply dr_drop)), by rw [htm2], rfl⟩
set_option maxRecDepth 20000 in
set_option maxHeartbeats 2000000 in
theorem rightE_c {A : SP} {e : Ed} (hE : EdW e := by assumption) :
    Fn Try.prog 17 #[.agg e.cells.toArray] (A) (fun r B => r = .agg (rtE e).cells.toArray ∧ A = B) := by
  refine fn_enterW (args := [.agg e.cells.toArray]) Try.func17 rfl Try.ntmps17 (by simp) ?_
  have hEa := hE.a
  have hEo := hE.o
  have hEi := hE.i
  refine sr ?_; refine tl_x rfl (o_box rfl rfl) ?_; rintro _ _ ⟨b1, rfl, rfl⟩; refine tl_x rfl (o_alloc z24 rfl) ?_; rintro _ _ ⟨b2, rfl, rfl⟩; refine nq ?_; refine tc_seq ?_; refine tc_regh (S := A * pt b1 (cl e.cells 24)) mo (by repeat (first | with_reducible exact dr_refl | apply dr_keep | apply dr_drop)) ?_
  show TH _ _ _ _ _ 11 #[ff,ff,ff,ff,ff,ff,ff,ff,ff,ff,ff] _ _
  refine th_take (i := 0) (listed' := #[tt,ff,ff,ff,ff,ff,ff,ff,ff,ff,ff]) rfl (by kernel_rfl) (by kernel_rfl) (by kernel_rfl) rfl rfl (o_fieldAddr (o := 0) Try.underlying24 rfl rfl sz3 rfl) ?_; refine th_take (i := 1) (listed' := #[tt,tt,ff,ff,ff,ff,ff,ff,ff,ff,ff]) rfl (by kernel_rfl) (by kernel_rfl) (by kernel_rfl) rfl rfl (by first | exact o_load p3 rfl (by repeat (first | with_reducible exact has_here | with_reducible exact has_pt | apply has_left)) rfl | exact o_loadC p3 rfl (by assumption)) ?_; refine th_take (i := 3) (listed' := #[tt,tt,ff,tt,ff,ff,ff,ff,ff,ff,ff]) rfl (by kernel_rfl) (by kernel_rfl) (by kernel_rfl) rfl rfl (o_fieldAddr (o := 1) Try.underlying24 rfl rfl sz3 rfl) ?_; refine th_take (i := 4) (listed' := #[tt,tt,ff,tt,tt,ff,ff,ff,ff,ff,ff]) rfl (by kernel_rfl) (by kernel_rfl) (by kernel_rfl) rfl rfl (by first | exact o_load p3 rfl (by repeat (first | with_reducible exact has_here | with_reducible exact has_pt | apply has_left)) rfl | exact o_loadC p3 rfl (by assumption)) ?_; refine th_take (i := 6) (listed' := #[tt,tt,ff,tt,tt,ff,tt,ff,ff,ff,ff]) rfl (by kernel_rfl) (by kernel_rfl) (by kernel_rfl) rfl rfl (o_fieldAddr (o := 2) Try.underlying24 rfl rfl sz3 rfl) ?_; refine th_take (i := 7) (listed' := #[tt,tt,ff,tt,tt,ff,tt,tt,ff,ff,ff]) rfl (by kernel_rfl) (by kernel_rfl) (by kernel_rfl) rfl rfl (by first | exact o_load p3 rfl (by repeat (first | with_reducible exact has_here | with_reducible exact has_pt | apply has_left)) rfl | exact o_loadC p3 rfl (by assumption)) ?_
  refine th_one (i := 2) (by kernel_rfl) ?_; refine oh_c (i := 2) (listed' := #[tt,tt,tt,tt,tt,ff,tt,tt,ff,ff,ff]) rfl rfl rfl (o_call bd19 rfl (small_c (n := e.at_))) ?_; rintro _ _ ⟨rfl, rfl⟩; refine ⟨by repeat (first | with_reducible exact dr_refl | apply dr_keep | apply dr_drop), ?_⟩; refine th_one (i := 5) (by kernel_rfl) ?_; refine oh_c (i := 5) (listed' := #[tt,tt,tt,tt,tt,tt,tt,tt,ff,ff,ff]) rfl rfl rfl (o_call bd19 rfl (small_c (n := e.out))) ?_; rintro _ _ ⟨rfl, rfl⟩; refine ⟨by repeat (first | with_reducible exact dr_refl | apply dr_keep | apply dr_drop), ?_⟩; refine th_one (i := 8) (by kernel_rfl) ?_; refine oh_c (i := 8) (listed' := #[tt,tt,tt,tt,tt,tt,tt,tt,tt,ff,ff]) rfl rfl rfl (o_call bd19 rfl (small_c (n := e.inn))) ?_; rintro _ _ ⟨rfl, rfl⟩; refine ⟨by repeat (first | with_reducible exact dr_refl | apply dr_keep | apply dr_drop), ?_⟩; refine th_take (i := 9) (listed' := #[tt,tt,tt,tt,tt,tt,tt,tt,tt,tt,ff]) rfl (by kernel_rfl) (by kernel_rfl) (by kernel_rfl) rfl rfl (o_bS (l := [_, _, _]) (pv_cons (by conv => lhs; whnf) (pv_cons (by conv => lhs; whnf) (pv_cons (by conv => lhs; whnf) pv_nil))) Try.underlying24 z24 (pl24 Try.underlying24) rfl) ?_; refine th_one (i := 10) (by kernel_rfl) ?_; refine oh_u (i := 10) (listed' := #[tt,tt,tt,tt,tt,tt,tt,tt,tt,tt,tt]) rfl rfl rfl (o_stUN (l' := (rtE e).cells) rfl (by repeat (first | with_reducible exact upd_here | with_reducible exact upd_pt | apply upd_left)) sz24 rfl rfl rfl (by show 3 ≤ 3; decide) rfl) (by repeat (first | with_reducible exact dr_refl | apply dr_keep | apply dr_drop)) ?_
  refine th_done (by kernel_rfl) ?_; refine q_then_n ?_; refine tc_ret ?_; exact ⟨.agg (rtE e).cells.toArray, A, resA1 rfl (rv_cell a24 sz24 rfl (by repeat (first | with_reducible exact has_here | with_reducible exact has_pt | apply has_left)) (by show 0 + 3 ≤ 3; decide) rfl), Dr.sat (by repeat (first | with_reducible exact dr_refl | apply dr_keep | apply dr_drop)), rfl, rfl⟩
set_option maxRecDepth 20000 in
set_option maxHeartbeats 2000000 in
theorem few_c {A : SP} {a : Option Addr} {c n : Nat} {l : List Mk} (hr : Rs A a (mcs l) := by repeat (first | assumption | with_reducible exact rs_sl | with_reducible exact rs_pt0 | exact rs_none | apply Rs.left)) (hm : l.length = n := by first | assumption | rfl) (hW : ∀ x ∈ l, MkW x := by assumption) (hs : n ≤ 1125899906842624 := by omega) :
    Fn Try.prog 16 #[.slice a n c] (A) (fun r B => ∃ L a2 c2, r = .slice a2 L.length c2 ∧ Few 1099511627776 L ∧ B = A * Sl 3 (.slice a2 L.length c2) L.length (mcs L)) := by
  refine fn_enterW (args := [.slice a n c]) Try.func16 rfl Try.ntmps16 (by simp) ?_; refine sr ?_; refine tla ?_; refine nq ?_; refine sr ?_; refine tla ?_; refine nq ?_; refine tc_seq ?_; refine sr ?_; refine tla ?_; refine nq ?_; refine tc_block ?_; refine tc_pre (A' := A * Sl 3 (.slice none 0 0) 0 (mcs (fwL (l.take 0)))) (fun _ _ h => sl_nil (Dr.sat (by repeat (first | with_reducible exact dr_refl | apply dr_keep | apply dr_drop)) _ _ h)) ?_; refine tc_loop (fun kk ρ BB => ∃ (i : Nat) (a3 : Option Addr) (c3 : Nat), (i ≤ n) ∧ (i ≤ 32) ∧ kk = n - i ∧ ρ 3 = .slice a3 i c3 ∧ ρ 4 = .int .i64 (i : Nat) ∧ ρ 0 = .slice a n c ∧ Dr BB (A * Sl 3 (.slice a3 i c3) i (mcs (fwL (l.take i))))) (m := n - (0)) ?_ ?_
  · exact ⟨0, none, 0, by omega, by omega, rfl, rfl, rfl, rfl, (by repeat (first | with_reducible exact dr_refl | apply dr_keep | apply dr_drop))⟩
  · intro k ρ B hI
    obtain ⟨i, a3, c3, hp0, hp1, hkk1, hE3, hE4, hE0, hBA⟩ := hI
    refine tc_pre hBA.sat ?_
    clear hBA
    refine tc_env (d := 3) hE3 ?_; refine tc_env (d := 4) hE4 ?_; refine tc_env (d := 0) hE0 ?_
    clear hE3 hE4 hE0
    refine tc_seq ?_; refine sr ?_; refine tlm ?_; refine tlm ?_; refine tv (o_len Try.underlying22 rfl) ?_; refine tv (o_lss rfl rfl) ?_; refine tlm ?_; refine tl_bool (d := 10) rfl (fun h => ?_) (fun h => ?_)
    · have hi0 : i < n := by first | omega | (simp at h; omega)
      refine tlm ?_; refine tv (o_lss rfl rfl) ?_; refine tv (o_pick_t rfl (by conv => lhs; whnf)) ?_; refine nq ?_; refine tc_cond rfl (fun h => ?_) (fun h => ?_)
      · have hi : i < l.length := by first | omega | (simp at h; omega)
        obtain ⟨x, hx⟩ : ∃ x, l[i] = x := ⟨_, rfl⟩
        have htk : l.take (i + 1) = l.take i ++ [x] := by rw [List.take_succ_eq_append_getElem hi, hx]
        have hi32 : i < 32 := by first | omega | (simp at h; omega)
        have hxm : x ∈ l := hx ▸ List.getElem_mem hi
        have hxW := hW x hxm
        have hxa := hxW.at_
        have hL_ : fwL (l.take (i + 1)) = fwL (l.take i) ++ [fwM i x] := by rw [htk, fwL_snoc, List.length_take, Nat.min_eq_left (by omega)]
        refine tc_skip ?_; refine q_then_n ?_; refine tc_seq ?_; refine tc_block ?_; refine sr ?_; refine tlm ?_; refine tlm ?_; refine tv (o_ixP Try.underlying22 sz35 rfl rfl (by omega) (by repeat (first | exact nn_rs hr (fun _ => by rw [mcs_len]; omega) | apply Nn.left))) ?_; refine tv (o_ldPN (vs := (x).cells) a35 sz35 rfl (by repeat (first | exact hr | apply Rs.left)) (by rw [mcs_at (by omega), hx]) rfl (by decide)) ?_; refine tl_x rfl (o_alloc z35 rfl) ?_; rintro _ _ ⟨b5, rfl, rfl⟩; refine tl_u rfl (o_stUN (l' := x.cells) rfl (by repeat (first | with_reducible exact upd_here | with_reducible exact upd_pt | apply upd_left)) sz35 rfl rfl rfl (by show 3 ≤ 3; decide) rfl) ?_; refine nq ?_; refine sr ?_; refine tlm ?_; refine tv (by first | exact o_conv32 Try.underlying3 Try.underlying33 rfl | exact o_conv Try.underlying3 Try.underlying33 rfl) ?_; refine tl_env (d := 21) (v := .int .u32 (i : Nat)) (by first | rfl | (show Value.int .u32 _ = _; congr 1; first | omega | (simp [IntKind.wrap, IntKind.bits, IntKind.signed]; omega))) ?_; refine tv (o_fieldAddr (o := 0) Try.underlying35 rfl rfl sz33 rfl) ?_; refine tl_u rfl (o_stU rfl (by repeat (first | with_reducible exact upd_here | with_reducible exact upd_pt | apply upd_left)) sz33 rfl rfl (by show 0 < 3; decide) rfl) ?_
        refine nq ?_; refine sr ?_; refine tv (o_fieldAddr (o := 1) Try.underlying35 rfl rfl sz3 rfl) ?_; refine tv (by first | exact o_load p3 rfl (by repeat (first | with_reducible exact has_here | with_reducible exact has_pt | apply has_left)) rfl | exact o_loadC p3 rfl (by assumption)) ?_; refine tl_c rfl (o_call bd19 rfl (small_c (n := x.at_))) ?_; rintro _ _ ⟨rfl, rfl⟩; refine tv (o_fieldAddr (o := 1) Try.underlying35 rfl rfl sz3 rfl) ?_; refine tl_u rfl (o_stU rfl (by repeat (first | with_reducible exact upd_here | with_reducible exact upd_pt | apply upd_left)) sz3 rfl rfl (by show 1 < 3; decide) rfl) ?_; refine nq ?_; refine sr ?_; refine tv (o_fieldAddr (o := 2) Try.underlying35 rfl rfl sz5 rfl) ?_; refine tv (by first | exact o_load p5 rfl (by repeat (first | with_reducible exact has_here | with_reducible exact has_pt | apply has_left)) rfl | exact o_loadC p5 rfl (by assumption)) ?_; refine tv (o_remN rfl rfl (by decide)) ?_; refine tv (o_fieldAddr (o := 2) Try.underlying35 rfl rfl sz5 rfl) ?_; refine tl_u rfl (o_stU rfl (by repeat (first | with_reducible exact upd_here | with_reducible exact upd_pt | apply upd_left)) sz5 rfl rfl (by show 2 < 3; decide) rfl) ?_; refine nq ?_; refine tc_reg ?_
        refine tlm ?_; refine tv (o_loadN (vs := (fwM i x).cells) a35 sz35 rfl (by repeat (first | with_reducible exact has_here | with_reducible exact has_pt | apply has_left)) (by show 3 ≤ 3; decide) rfl) ?_; refine tl_x rfl (o_buildSliceK (k := 3) (l := (fwM i x).cells) Try.underlying22 sz35 z35 rfl rfl (by decide)) ?_; rintro _ _ ⟨b33, rfl, rfl⟩; refine tl_x rfl (o_apB Try.underlying22 Try.underlying22 sz35 by35 z35 rfl (by decide) (by decide) rfl rfl rfl (by repeat (first | with_reducible exact ct_here | apply ct_left)) rfl rfl (by omega) (show _ = mcs (fwL (l.take i) ++ [fwM i x]) by rw [mcs_append]; rfl)) ?_; rintro _ _ ⟨a34, c34, rfl, hc34, rfl⟩; refine tla ?_; refine tl_nil ?_; refine q_block_n (q_then_n ?_); refine tc_reg ?_; refine tlm ?_; refine tv (by first | exact o_addI rfl rfl (by omega) | exact o_add rfl rfl) ?_; refine tla ?_; refine nq ?_; exact ⟨_, by omega, i + 1, _, _, by omega, by omega, rfl, rfl, rfl, rfl, by rw [hL_]; repeat (first | with_reducible exact dr_refl | apply dr_keep | apply dr_drop)⟩
      · try simp only [lv1, lv2, lv3, lv4, lv5, lv6, Bool.not_true, Bool.not_false] at h
        refine tc_exit ?_; refine q_then_e (q_then_e (q_block_x (q_then_n ?_))); refine sr ?_; refine tlm ?_; refine tla ?_; refine nq ?_; refine tc_ret ?_
        have el : (fwL (l.take i)).length = i := by unfold fwL; rw [List.length_mapIdx, List.length_take]; omega
        exact ⟨.slice a3 i c3, _, res1 rfl rfl, fun _ _ h => h, fwL (l.take i), a3, c3, by rw [el], fw_few _ (by rw [List.length_take]; omega), by rw [el]⟩
    · have hi0 : ¬ i < n := by first | omega | (simp at h; omega)
      refine tk ?_; refine tk ?_; refine tv (o_pick_f rfl (by conv => lhs; whnf)) ?_; refine nq ?_; refine tc_cond_f rfl ?_; refine tc_exit ?_; refine q_then_e (q_then_e (q_block_x (q_then_n ?_))); refine sr ?_; refine tlm ?_; refine tla ?_; refine nq ?_; refine tc_ret ?_
      have el : (fwL (l.take i)).length = i := by unfold fwL; rw [List.length_mapIdx, List.length_take]; omega
      exact ⟨.slice a3 i c3, _, res1 rfl rfl, fun _ _ h => h, fwL (l.take i), a3, c3, by rw [el], fw_few _ (by rw [List.length_take]; omega), by rw [el]⟩
end Go.Vl

set_option linter.unusedVariables false
set_option linter.unusedSimpArgs false
namespace Go.Vl
open Go Go.Proofs
theorem went_lt {E : Ed} {x y : Mk} (hN : Near 1099511627775 E) (h0 : 0 ≤ x.at_) (h1 : x.at_ < 1099511627776) (h : Went E x y) : y.at_ ≤ 4398046511104 - E.out + E.inn ∧ y.at_ < 4398046511105 := by
  obtain ⟨Ea1, Ea2⟩ := hN.a
  obtain ⟨Eo1, Eo2⟩ := hN.o
  obtain ⟨Ei1, Ei2⟩ := hN.i
  obtain ⟨_, _, h3⟩ := h
  omega
attribute [local irreducible] Sl pt ro SlB
end Go.Vl

set_option linter.unusedVariables false
set_option linter.unusedSimpArgs false
namespace Go.Vl
open Go Go.Proofs
theorem flatG {α : Type} {f : α → List Value} : ∀ {Cs : List (List Value)} {xs : List α} (_ : Cs.length = xs.length) (_ : ∀ i (h : i < xs.length) (h' : i < Cs.length), Cs[i] = f xs[i]), Cs.flatten = xs.flatMap f
  | [], [], _, _ => rfl
  | c :: Cs, x :: xs, hl, h => by
    have h0 := h 0 (by simp) (by simp)
    simp only [List.getElem_cons_zero] at h0
    rw [List.flatten_cons, h0, flatG (f := f) (Cs := Cs) (xs := xs) (by simpa using hl) (fun i hi hi' => h (i + 1) (by simpa using hi) (by simpa using hi')), List.flatMap_cons]
theorem three_ofG {α : Type} : ∀ {l : List α}, l.length = 3 → ∃ a b c, l = [a, b, c]
  | [a, b, c], _ => ⟨a, b, c, rfl⟩
set_option maxRecDepth 20000 in
theorem rdb_mk (W : World) : Rdb Try.prog W 35 (fun cs (x : Mk) => cs = x.cells ∧ MkW x) := fun H enc sp hd fu cs d pl h hw => by
  obtain ⟨hl, hf⟩ := rdb_fields Try.underlying35 h hw
  have hc : Try.prog.cellsOf 35 = 3 := by kernel_rfl
  have hci : Try.prog.cellsOf 3 = 1 := by kernel_rfl
  have hc3 : Try.prog.cellsOf 33 = 1 := by kernel_rfl
  have hc8 : Try.prog.cellsOf 5 = 1 := by kernel_rfl
  rw [hc] at hl
  obtain ⟨x, e0, w0⟩ := hf 0 _ rfl (rdb_int Try.underlying33)
  obtain ⟨y, e1, w1⟩ := hf 1 _ rfl (rdb_int Try.underlying3)
  obtain ⟨z, e2, w2⟩ := hf 2 _ rfl (rdb_int Try.underlying5)
  obtain ⟨c0, c1, c2, rfl⟩ := three_ofG hl
  simp [hc3] at e0
  simp [hci] at e1
  simp [hc8] at e2
  subst e0 e1 e2
  have b0 := Go.bounds_u32 w0
  have b2 := Go.bounds_u8 w2
  obtain ⟨i, rfl⟩ := Int.eq_ofNat_of_zero_le b0.1
  obtain ⟨g, rfl⟩ := Int.eq_ofNat_of_zero_le b2.1
  exact ⟨⟨i, y, g⟩, rfl, ⟨by show i < 4294967296; omega, i64_wf w1, by show g < 256; omega⟩⟩
def PMkG (A : SP) (cs : List Value) (l : List Mk) : Prop := ∃ a c, cs = [.slice a l.length c] ∧ l.length ≤ c ∧ l.length * 24 ≤ reachBytes ∧ Rs A a (mcs l) ∧ ∀ x ∈ l, MkW x
theorem rdb_mks (W : World) : Rdb Try.prog W 22 (PMkG (old W)) :=
  (rdb_slice (k := 3) (b := 24) Try.underlying22 (by kernel_rfl) (by kernel_rfl) (by decide) (rdb_mk W)).mono fun cs xs ⟨a, cap, Cs, e1, hc, hs, hl, hx, hr⟩ => by
    refine ⟨xs, ⟨a, cap, e1, hc, hs, ?_, fun x hx' => ?_⟩⟩
    · rw [show mcs xs = Cs.flatten from (flatG hl (fun i h h' => (hx i h h').2.1)).symm]; exact hr
    · obtain ⟨i, hi, rfl⟩ := List.mem_iff_getElem.1 hx'
      exact (hx i hi (by omega)).2.2
set_option maxRecDepth 20000 in
theorem rdb_ed (W : World) : Rdb Try.prog W 24 (fun cs (x : Ed) => cs = x.cells ∧ EdW x) := fun H enc sp hd fu cs d pl h hw => by
  obtain ⟨hl, hf⟩ := rdb_fields Try.underlying24 h hw
  have hc : Try.prog.cellsOf 24 = 3 := by kernel_rfl
  have hci : Try.prog.cellsOf 3 = 1 := by kernel_rfl
  rw [hc] at hl
  obtain ⟨x, e0, w0⟩ := hf 0 _ rfl (rdb_int Try.underlying3)
  obtain ⟨y, e1, w1⟩ := hf 1 _ rfl (rdb_int Try.underlying3)
  obtain ⟨z, e2, w2⟩ := hf 2 _ rfl (rdb_int Try.underlying3)
  obtain ⟨c0, c1, c2, rfl⟩ := three_ofG hl
  simp [hci] at e0
  simp [hci] at e1
  simp [hci] at e2
  subst e0 e1 e2
  exact ⟨⟨x, y, z⟩, rfl, ⟨i64_wf w0, i64_wf w1, i64_wf w2⟩⟩
theorem reach_mk {n : Nat} (h : n * 24 ≤ reachBytes) : n ≤ 1125899906842624 := by
  have : reachBytes ≤ 140737488355328 := by decide
  omega
end Go.Vl

set_option linter.unusedVariables false
set_option linter.unusedSimpArgs false
namespace Go.Vl
open Go Go.Proofs
theorem mk_eq {x y : Mk} (h1 : x.id = y.id) (h2 : x.at_ = y.at_) (h3 : x.gr = y.gr) : x = y := by cases x; cases y; simp at h1 h2 h3; subst h1 h2 h3; rfl
theorem nearK {B a o i : Int} (h1 : 0 ≤ a ∧ a ≤ B) (h2 : 0 ≤ o ∧ o ≤ B) (h3 : 0 ≤ i ∧ i ≤ B) : Near B ⟨a, o, i⟩ := ⟨h1, h2, h3⟩
theorem few_go {b : Int} {L : List Mk} {e : Ed} (hL : Few b L) (hb : b ≤ 1000000000000000000) (he : Near 1000000000000000000 e) : ∃ M, shiftS L e = (M, 0) ∧ M.length = L.length ∧ (∀ x ∈ L, MkW x) ∧ EdW e ∧ (∀ i (h : i < L.length) (h2 : i < M.length), Went e L[i] M[i]) ∧ (∀ c, (∀ x y : Mk, 0 ≤ x.at_ → x.at_ < b → Went e x y → y.at_ < c) → Few c M) := by
  have h := few_shift hL hb he
  refine ⟨L.map (mvM e), h.1, by rw [List.length_map], hL.mkw hb, he.w, fun i hi h2 => ?_, fun c hc => hL.map h.2 he hc⟩
  rw [List.getElem_map]; exact h.2 i hi
attribute [local irreducible] Sl pt ro SlB
set_option maxRecDepth 20000 in
set_option maxHeartbeats 4000000 in
theorem MarksTwo_f (F : SP) {a : Option Addr} {c n : Nat} {l : List Mk} {e : Ed} (hr : Rs F a (mcs l)) (hm : l.length = n) (hW : ∀ x ∈ l, MkW x) (hE : EdW e) (hn : n ≤ 1125899906842624) {z : Int} (hz : -9223372036854775808 ≤ z ∧ z ≤ 9223372036854775807) :
    Fn Try.prog 5 #[.slice a n c, .agg e.cells.toArray, .int .i64 z] (F) (fun r B => r = .bool true ∧ B = F) := by
  refine fn_enterW (args := [.slice a n c, .agg e.cells.toArray, .int .i64 z]) Try.func5 rfl Try.ntmps5 (by simp) ?_
  obtain ⟨E, hEe⟩ : ∃ E, rtE e = E := ⟨_, rfl⟩
  have hN : Near 1099511627775 E := hEe ▸ rt_near e
  obtain ⟨Ea1, Ea2⟩ := hN.a
  obtain ⟨Eo1, Eo2⟩ := hN.o
  obtain ⟨Ei1, Ei2⟩ := hN.i
  have hzl := smS_lt z
  refine sr ?_; refine tl_x rfl (o_box rfl rfl) ?_; rintro _ _ ⟨b4, rfl, rfl⟩; refine tla ?_; refine nq ?_; refine sr ?_; refine tlm ?_; refine tl_c rfl (o_call bd16 rfl (few_c (l := l))) ?_; rintro _ _ ⟨L19, a19, c19, rfl, hL19, rfl⟩
  have hLl := hL19.len
  obtain ⟨M7, hs_M7, hl_M7, hk_M7, hd_M7, hw_M7, hf_M7⟩ := few_go hL19 (by decide) (e := ⟨E.at_, 0, 0⟩) (nearK (by omega) (by omega) (by omega))
  obtain ⟨M9, hs_M9, hl_M9, hk_M9, hd_M9, hw_M9, hf_M9⟩ := few_go hL19 (by decide) (e := ⟨E.at_, 0, E.inn + (smS z : Nat)⟩) (nearK (by omega) (by omega) (by omega))
  obtain ⟨M11, hs_M11, hl_M11, hk_M11, hd_M11, hw_M11, hf_M11⟩ := few_go hL19 (by decide) (e := ⟨E.at_, 0, E.inn⟩) (nearK (by omega) (by omega) (by omega))
  obtain ⟨M13, hs_M13, hl_M13, hk_M13, hd_M13, hw_M13, hf_M13⟩ := few_go hL19 (by decide) (e := E) (hN.mono (by decide))
  have hL13 : Few 4398046511105 M13 := hf_M13 _ fun x y h0 h1 h => (went_lt hN h0 h1 h).2
  obtain ⟨M14, hs_M14, hl_M14, hk_M14, hd_M14, hw_M14, hf_M14⟩ := few_go hL13 (by decide) (e := ⟨E.at_, E.inn, E.out⟩) (nearK (by omega) (by omega) (by omega))
  refine tla ?_; refine nq ?_; refine sr ?_; refine tv (o_loadN (vs := (e).cells) a24 sz24 rfl (by repeat (first | with_reducible exact has_here | with_reducible exact has_pt | apply has_left)) (by show 3 ≤ 3; decide) rfl) ?_; refine tl_c rfl (o_call bd17 rfl (rightE_c (e := e))) ?_; rintro _ _ ⟨rfl, rfl⟩; refine tl_env (d := 21) (v := .agg E.cells.toArray) (by show Value.agg (rtE e).cells.toArray = _; rw [hEe]) ?_; refine tl_u rfl (o_stUN (l' := E.cells) rfl (by repeat (first | with_reducible exact upd_here | with_reducible exact upd_pt | apply upd_left)) sz24 rfl rfl rfl (by show 3 ≤ 3; decide) rfl) ?_; refine nq ?_; refine sr ?_; refine tlm ?_; refine tl_c rfl (o_call bd19 rfl (small_c (n := z))) ?_; rintro _ _ ⟨rfl, rfl⟩; refine tla ?_; refine nq ?_; refine sr ?_; refine tlm ?_; refine tv (o_fieldAddr (o := 0) Try.underlying24 rfl rfl sz3 rfl) ?_; refine tv (by first | exact o_load p3 rfl (by repeat (first | with_reducible exact has_here | with_reducible exact has_pt | apply has_left)) rfl | exact o_loadC p3 rfl (by assumption)) ?_; refine tv (o_bS (l := [_, _, _]) (pv_cons (by conv => lhs; whnf) pv_nil) Try.underlying24 z24 (pl24 Try.underlying24) rfl) ?_; refine tl_c rfl (o_call bd12 rfl (Shiftw (l := L19) (e := ⟨E.at_, 0, 0⟩) (n := L19.length) hs_M7 (hr := (by repeat (first | with_reducible exact rs_sl | assumption | apply Rs.left))) (hW := hk_M7) (hE := hd_M7) (hs := by omega))) ?_
  rintro _ _ ⟨a29, c29, rfl, hc29, rfl⟩; refine tlm ?_; refine tv (o_extract rfl rfl) ?_; refine tv (o_extract rfl rfl) ?_; refine tla ?_; refine tla ?_; refine nq ?_; refine sr ?_; refine tlm ?_; refine tv (o_fieldAddr (o := 0) Try.underlying24 rfl rfl sz3 rfl) ?_; refine tv (by first | exact o_load p3 rfl (by repeat (first | with_reducible exact has_here | with_reducible exact has_pt | apply has_left)) rfl | exact o_loadC p3 rfl (by assumption)) ?_; refine tv (o_fieldAddr (o := 2) Try.underlying24 rfl rfl sz3 rfl) ?_; refine tv (by first | exact o_load p3 rfl (by repeat (first | with_reducible exact has_here | with_reducible exact has_pt | apply has_left)) rfl | exact o_loadC p3 rfl (by assumption)) ?_; refine tlm ?_; refine tv (by first | exact o_addI rfl rfl (by omega) | exact o_add rfl rfl) ?_; refine tv (o_bS (l := [_, _, _]) (pv_cons (by conv => lhs; whnf) (pv_cons (by conv => lhs; whnf) pv_nil)) Try.underlying24 z24 (pl24 Try.underlying24) rfl) ?_; refine tl_c rfl (o_call bd12 rfl (Shiftw (l := L19) (e := ⟨E.at_, 0, E.inn + (smS z : Nat)⟩) (n := L19.length) hs_M9 (hr := (by repeat (first | with_reducible exact rs_sl | assumption | apply Rs.left))) (hW := hk_M9) (hE := hd_M9) (hs := by omega))) ?_; rintro _ _ ⟨a41, c41, rfl, hc41, rfl⟩; refine tlm ?_; refine tv (o_extract rfl rfl) ?_; refine tv (o_extract rfl rfl) ?_; refine tla ?_; refine tla ?_; refine nq ?_
  refine sr ?_; refine tlm ?_; refine tv (o_fieldAddr (o := 0) Try.underlying24 rfl rfl sz3 rfl) ?_; refine tv (by first | exact o_load p3 rfl (by repeat (first | with_reducible exact has_here | with_reducible exact has_pt | apply has_left)) rfl | exact o_loadC p3 rfl (by assumption)) ?_; refine tv (o_fieldAddr (o := 2) Try.underlying24 rfl rfl sz3 rfl) ?_; refine tv (by first | exact o_load p3 rfl (by repeat (first | with_reducible exact has_here | with_reducible exact has_pt | apply has_left)) rfl | exact o_loadC p3 rfl (by assumption)) ?_; refine tv (o_bS (l := [_, _, _]) (pv_cons (by conv => lhs; whnf) (pv_cons (by conv => lhs; whnf) pv_nil)) Try.underlying24 z24 (pl24 Try.underlying24) rfl) ?_; refine tl_c rfl (o_call bd12 rfl (Shiftw (l := L19) (e := ⟨E.at_, 0, E.inn⟩) (n := L19.length) hs_M11 (hr := (by repeat (first | with_reducible exact rs_sl | assumption | apply Rs.left))) (hW := hk_M11) (hE := hd_M11) (hs := by omega))) ?_; rintro _ _ ⟨a51, c51, rfl, hc51, rfl⟩; refine tlm ?_; refine tv (o_extract rfl rfl) ?_; refine tv (o_extract rfl rfl) ?_; refine tla ?_; refine tla ?_; refine nq ?_; refine tc_seq ?_; refine sr ?_; refine tlm ?_; refine tv (o_nei rfl rfl) ?_; refine tlm ?_; refine tl_bool (d := 56) rfl (fun h => ?_) (fun h => ?_)
  · exfalso; first | (simp at h; done) | (simp [hl_M7, hl_M9, hl_M11, hl_M13, hl_M14] at h; done) | (simp at h; omega)
  · try simp only [lv1, lv2, lv3, lv4, lv5, lv6, Bool.not_true, Bool.not_false] at h
    refine tlm ?_; refine tv (o_nei rfl rfl) ?_; refine tv (o_pick_f rfl (by conv => lhs; whnf)) ?_; refine tlm ?_; refine tl_bool (d := 60) rfl (fun h => ?_) (fun h => ?_)
    · exfalso; first | (simp at h; done) | (simp [hl_M7, hl_M9, hl_M11, hl_M13, hl_M14] at h; done) | (simp at h; omega)
    · try simp only [lv1, lv2, lv3, lv4, lv5, lv6, Bool.not_true, Bool.not_false] at h
      refine tlm ?_; refine tv (o_nei rfl rfl) ?_; refine tv (o_pick_f rfl (by conv => lhs; whnf)) ?_; refine tlm ?_; refine tl_bool (d := 64) rfl (fun h => ?_) (fun h => ?_)
      · exfalso; first | (simp at h; done) | (simp [hl_M7, hl_M9, hl_M11, hl_M13, hl_M14] at h; done) | (simp at h; omega)
      · try simp only [lv1, lv2, lv3, lv4, lv5, lv6, Bool.not_true, Bool.not_false] at h
        refine tlm ?_; refine tv (o_len Try.underlying22 rfl) ?_; refine tlm ?_; refine tv (o_len Try.underlying22 rfl) ?_; refine tv (o_nei rfl rfl) ?_; refine tv (o_pick_f rfl (by conv => lhs; whnf)) ?_; refine tlm ?_; refine tl_bool (d := 71) rfl (fun h => ?_) (fun h => ?_)
        · exfalso; first | (simp at h; done) | (simp [hl_M7, hl_M9, hl_M11, hl_M13, hl_M14] at h; done) | (simp at h; omega)
        · try simp only [lv1, lv2, lv3, lv4, lv5, lv6, Bool.not_true, Bool.not_false] at h
          refine tlm ?_; refine tv (o_len Try.underlying22 rfl) ?_; refine tlm ?_; refine tv (o_len Try.underlying22 rfl) ?_; refine tv (o_nei rfl rfl) ?_; refine tv (o_pick_f rfl (by conv => lhs; whnf)) ?_; refine tlm ?_; refine tl_bool (d := 78) rfl (fun h => ?_) (fun h => ?_)
          · exfalso; first | (simp at h; done) | (simp [hl_M7, hl_M9, hl_M11, hl_M13, hl_M14] at h; done) | (simp at h; omega)
          · try simp only [lv1, lv2, lv3, lv4, lv5, lv6, Bool.not_true, Bool.not_false] at h
            refine tlm ?_; refine tv (o_len Try.underlying22 rfl) ?_; refine tlm ?_; refine tv (o_len Try.underlying22 rfl) ?_; refine tv (o_nei rfl rfl) ?_; refine tv (o_pick_f rfl (by conv => lhs; whnf)) ?_; refine nq ?_; refine tc_cond rfl (fun h => ?_) (fun h => ?_)
            · exfalso; first | (simp at h; done) | (simp [hl_M7, hl_M9, hl_M11, hl_M13, hl_M14] at h; done) | (simp at h; omega)
            · try simp only [lv1, lv2, lv3, lv4, lv5, lv6, Bool.not_true, Bool.not_false] at h
              refine tc_skip ?_; refine q_then_n ?_; refine sr ?_; refine tlm ?_; refine tv (o_loadN (vs := (E).cells) a24 sz24 rfl (by repeat (first | with_reducible exact has_here | with_reducible exact has_pt | apply has_left)) (by show 3 ≤ 3; decide) rfl) ?_; refine tl_c rfl (o_call bd12 rfl (Shiftw (l := L19) (e := E) (n := L19.length) hs_M13 (hr := (by repeat (first | with_reducible exact rs_sl | assumption | apply Rs.left))) (hW := hk_M13) (hE := hd_M13) (hs := by omega))) ?_; rintro _ _ ⟨a88, c88, rfl, hc88, rfl⟩; refine tlm ?_; refine tv (o_extract rfl rfl) ?_; refine tv (o_extract rfl rfl) ?_; refine tla ?_; refine tla ?_; refine nq ?_; refine sr ?_; refine tlm ?_; refine tv (o_fieldAddr (o := 0) Try.underlying24 rfl rfl sz3 rfl) ?_; refine tv (by first | exact o_load p3 rfl (by repeat (first | with_reducible exact has_here | with_reducible exact has_pt | apply has_left)) rfl | exact o_loadC p3 rfl (by assumption)) ?_; refine tv (o_fieldAddr (o := 2) Try.underlying24 rfl rfl sz3 rfl) ?_; refine tv (by first | exact o_load p3 rfl (by repeat (first | with_reducible exact has_here | with_reducible exact has_pt | apply has_left)) rfl | exact o_loadC p3 rfl (by assumption)) ?_
              refine tv (o_fieldAddr (o := 1) Try.underlying24 rfl rfl sz3 rfl) ?_; refine tv (by first | exact o_load p3 rfl (by repeat (first | with_reducible exact has_here | with_reducible exact has_pt | apply has_left)) rfl | exact o_loadC p3 rfl (by assumption)) ?_; refine tv (o_bS (l := [_, _, _]) (pv_cons (by conv => lhs; whnf) (pv_cons (by conv => lhs; whnf) (pv_cons (by conv => lhs; whnf) pv_nil))) Try.underlying24 z24 (pl24 Try.underlying24) rfl) ?_; refine tl_c rfl (o_call bd12 rfl (Shiftw (l := M13) (e := ⟨E.at_, E.inn, E.out⟩) (n := M13.length) hs_M14 (hr := (by repeat (first | with_reducible exact rs_sl | assumption | apply Rs.left))) (hW := hk_M14) (hE := hd_M14) (hs := by omega))) ?_; rintro _ _ ⟨a100, c100, rfl, hc100, rfl⟩; refine tlm ?_; refine tv (o_extract rfl rfl) ?_; refine tv (o_extract rfl rfl) ?_; refine tla ?_; refine tla ?_; refine nq ?_; refine tc_seq ?_; refine sr ?_; refine tlm ?_; refine tv (o_nei rfl rfl) ?_; refine tlm ?_; refine tl_bool (d := 105) rfl (fun h => ?_) (fun h => ?_)
              · exfalso; first | (simp at h; done) | (simp [hl_M7, hl_M9, hl_M11, hl_M13, hl_M14] at h; done) | (simp at h; omega)
              · try simp only [lv1, lv2, lv3, lv4, lv5, lv6, Bool.not_true, Bool.not_false] at h
                refine tlm ?_; refine tv (o_nei rfl rfl) ?_; refine tv (o_pick_f rfl (by conv => lhs; whnf)) ?_; refine tlm ?_; refine tl_bool (d := 109) rfl (fun h => ?_) (fun h => ?_)
                · exfalso; first | (simp at h; done) | (simp [hl_M7, hl_M9, hl_M11, hl_M13, hl_M14] at h; done) | (simp at h; omega)
                · try simp only [lv1, lv2, lv3, lv4, lv5, lv6, Bool.not_true, Bool.not_false] at h
                  refine tlm ?_; refine tv (o_len Try.underlying22 rfl) ?_; refine tlm ?_; refine tv (o_len Try.underlying22 rfl) ?_; refine tv (o_nei rfl rfl) ?_; refine tv (o_pick_f rfl (by conv => lhs; whnf)) ?_; refine nq ?_; refine tc_cond rfl (fun h => ?_) (fun h => ?_)
                  · exfalso; first | (simp at h; done) | (simp [hl_M7, hl_M9, hl_M11, hl_M13, hl_M14] at h; done) | (simp at h; omega)
                  · try simp only [lv1, lv2, lv3, lv4, lv5, lv6, Bool.not_true, Bool.not_false] at h
                    refine tc_skip ?_; refine q_then_n ?_; refine tc_seq ?_; refine sr ?_; refine tla ?_; refine nq ?_; refine tc_block ?_; refine tc_loop (fun kk ρ BB => ∃ (i : Nat), (i ≤ L19.length) ∧ kk = L19.length - i ∧ ρ 16 = .int .i64 (i : Nat) ∧ ρ 0 = .slice a19 L19.length c19 ∧ ρ 2 = .int .i64 (smS z : Nat) ∧ ρ 4 = .pointer (some ⟨b4, 0, none⟩) ∧ ρ 7 = .slice a29 M7.length c29 ∧ ρ 9 = .slice a41 M9.length c41 ∧ ρ 11 = .slice a51 M11.length c51 ∧ ρ 14 = .slice a100 M14.length c100 ∧ BB = F * pt b4 (cl E.cells 24) * Sl 3 (.slice a19 L19.length c19) L19.length (mcs L19) * Sl 3 (.slice a29 M7.length c29) M7.length (mcs M7) * Sl 3 (.slice a41 M9.length c41) M9.length (mcs M9) * Sl 3 (.slice a51 M11.length c51) M11.length (mcs M11) * Sl 3 (.slice a88 M13.length c88) M13.length (mcs M13) * Sl 3 (.slice a100 M14.length c100) M14.length (mcs M14)) (m := L19.length - (0)) ?_ ?_
                    · exact ⟨0, by omega, rfl, rfl, rfl, rfl, rfl, rfl, rfl, rfl, rfl, rfl⟩
                    · intro k ρ B hI
                      obtain ⟨i, hp0, hkk1, hE16, hE0, hE2, hE4, hE7, hE9, hE11, hE14, rfl⟩ := hI
                      refine tc_env (d := 16) hE16 ?_; refine tc_env (d := 0) hE0 ?_; refine tc_env (d := 2) hE2 ?_; refine tc_env (d := 4) hE4 ?_; refine tc_env (d := 7) hE7 ?_; refine tc_env (d := 9) hE9 ?_; refine tc_env (d := 11) hE11 ?_; refine tc_env (d := 14) hE14 ?_
                      clear hE16 hE0 hE2 hE4 hE7 hE9 hE11 hE14
                      refine tc_seq ?_; refine sr ?_; refine tlm ?_; refine tlm ?_; refine tv (o_len Try.underlying22 rfl) ?_; refine tv (o_lss rfl rfl) ?_; refine nq ?_; refine tc_cond rfl (fun h => ?_) (fun h => ?_)
                      · have hi : i < L19.length := by first | omega | (simp at h; omega)
                        obtain ⟨x0, x1, x2, x4⟩ := hL19.at_ i hi
                        obtain ⟨x, hx⟩ : ∃ x, L19[i] = x := ⟨_, rfl⟩
                        rw [hx] at x0 x1 x2 x4
                        have i7 : i < M7.length := by omega
                        obtain ⟨p7a, p7b, p7c⟩ := hw_M7 i hi i7
                        obtain ⟨q7, hq7⟩ : ∃ y, M7[i] = y := ⟨_, rfl⟩
                        rw [hx, hq7] at p7a p7b p7c
                        try dsimp only at p7c
                        have i9 : i < M9.length := by omega
                        obtain ⟨p9a, p9b, p9c⟩ := hw_M9 i hi i9
                        obtain ⟨q9, hq9⟩ : ∃ y, M9[i] = y := ⟨_, rfl⟩
                        rw [hx, hq9] at p9a p9b p9c
                        try dsimp only at p9c
                        have i11 : i < M11.length := by omega
                        obtain ⟨p11a, p11b, p11c⟩ := hw_M11 i hi i11
                        obtain ⟨q11, hq11⟩ : ∃ y, M11[i] = y := ⟨_, rfl⟩
                        rw [hx, hq11] at p11a p11b p11c
                        try dsimp only at p11c
                        have i13 : i < M13.length := by omega
                        obtain ⟨p13a, p13b, p13c⟩ := hw_M13 i hi i13
                        obtain ⟨q13, hq13⟩ : ∃ y, M13[i] = y := ⟨_, rfl⟩
                        rw [hx, hq13] at p13a p13b p13c
                        try dsimp only at p13c
                        have i14 : i < M14.length := by omega
                        obtain ⟨p14a, p14b, p14c⟩ := hw_M14 i (by omega) i14
                        obtain ⟨q14, hq14⟩ : ∃ y, M14[i] = y := ⟨_, rfl⟩
                        rw [hq13, hq14] at p14a p14b p14c
                        try dsimp only at p14c
                        obtain rfl : q7 = x := mk_eq p7a (by omega) p7b
                        refine tc_skip ?_; refine q_then_n ?_; refine tc_seq ?_; refine tc_block ?_; refine tc_seq ?_; refine tc_seq ?_; refine tc_regq mo (by kernel_rfl) ?_; refine ql_v rfl (o_move (by conv => lhs; whnf)) ?_; refine ql_v rfl (o_move (by conv => lhs; whnf)) ?_; refine ql_v rfl (o_ixP (a := a29) Try.underlying22 sz35 rfl rfl (by omega) (nn_rs (by repeat (first | with_reducible exact rs_sl | assumption | apply Rs.left)) (fun _ => by rw [mcs_len]; omega))) ?_; refine ql_v rfl (o_ldPN (a := a29) (vs := q7.cells) a35 sz35 rfl (by repeat (first | with_reducible exact rs_sl | assumption | apply Rs.left)) (by rw [mcs_at (by omega), hq7]) rfl (by decide)) ?_; refine ql_v rfl (o_move (by conv => lhs; whnf)) ?_; refine ql_v rfl (o_move (by conv => lhs; whnf)) ?_; refine ql_v rfl (o_ixP (a := a19) Try.underlying22 sz35 rfl rfl (by omega) (nn_rs (by repeat (first | with_reducible exact rs_sl | assumption | apply Rs.left)) (fun _ => by rw [mcs_len]; omega))) ?_; refine ql_v rfl (o_ldPN (a := a19) (vs := q7.cells) a35 sz35 rfl (by repeat (first | with_reducible exact rs_sl | assumption | apply Rs.left)) (by rw [mcs_at (by omega), hx]) rfl (by decide)) ?_; refine ql_v rfl (o_neMk (a := q7) (b := q7) rfl rfl) ?_
                        refine ql_nil ?_; refine q_then_n ?_; refine tc_cond rfl (fun h => ?_) (fun h => ?_)
                        · exfalso; simp at h
                        · try simp only [lv1, lv2, lv3, lv4, lv5, lv6, Bool.not_true, Bool.not_false] at h
                          refine tc_skip ?_; refine q_then_n ?_; refine tc_seq ?_; refine tc_cut (fun ρ BB => ∃ (bb : Bool), (bb = decide (q7.at_ < E.at_ ∨ (q7.at_ = E.at_ ∧ q7.gr = 0))) ∧ ρ 17 = .bool bb ∧ ρ 0 = .slice a19 L19.length c19 ∧ ρ 2 = .int .i64 (smS z : Nat) ∧ ρ 4 = .pointer (some ⟨b4, 0, none⟩) ∧ ρ 7 = .slice a29 M7.length c29 ∧ ρ 9 = .slice a41 M9.length c41 ∧ ρ 11 = .slice a51 M11.length c51 ∧ ρ 14 = .slice a100 M14.length c100 ∧ ρ 16 = .int .i64 (i : Nat) ∧ BB = F * pt b4 (cl E.cells 24) * Sl 3 (.slice a19 L19.length c19) L19.length (mcs L19) * Sl 3 (.slice a29 M7.length c29) M7.length (mcs M7) * Sl 3 (.slice a41 M9.length c41) M9.length (mcs M9) * Sl 3 (.slice a51 M11.length c51) M11.length (mcs M11) * Sl 3 (.slice a88 M13.length c88) M13.length (mcs M13) * Sl 3 (.slice a100 M14.length c100) M14.length (mcs M14)) ?_ ?_
                          · skip
                            refine tc_regq mo (by kernel_rfl) ?_; refine ql_v rfl (o_move (by conv => lhs; whnf)) ?_; refine ql_v rfl (o_move (by conv => lhs; whnf)) ?_; refine ql_v rfl (o_ixP (a := a19) Try.underlying22 sz35 rfl rfl (by omega) (nn_rs (by repeat (first | with_reducible exact rs_sl | assumption | apply Rs.left)) (fun _ => by rw [mcs_len]; omega))) ?_; refine ql_v rfl (o_faP (a := a19) (m := 0) (o := 1) Try.underlying35 rfl rfl sz3 rfl (nn_rs (by repeat (first | with_reducible exact rs_sl | assumption | apply Rs.left)) (fun _ => by rw [mcs_len]; omega))) ?_; refine ql_v rfl (o_ldP (a := a19) p3 rfl (by repeat (first | with_reducible exact rs_sl | assumption | apply Rs.left)) (by rw [mcs_f1 (by omega)])) ?_; refine ql_env (d := 135) (v := .int .i64 q7.at_) (by rw [← hx]; rfl) ?_; refine ql_v rfl (o_fieldAddr (o := 0) Try.underlying24 rfl rfl sz3 rfl) ?_; refine ql_v rfl (by first | exact o_load p3 rfl (by repeat (first | with_reducible exact has_here | with_reducible exact has_pt | apply has_left)) rfl | exact o_loadC p3 rfl (by assumption)) ?_; refine ql_v rfl (o_lss rfl rfl) ?_; refine ql_v rfl (o_move (by conv => lhs; whnf)) ?_; refine ql_bool (d := 139) rfl (fun h => ?_) (fun h => ?_)
                            · have g139 : (q7.at_ < E.at_) := by first | exact of_decide_eq_true h | (have h2 := h; simp at h2; omega) | simpa using h
                              refine ql_skip rfl ?_; refine ql_skip rfl ?_; refine ql_skip rfl ?_; refine ql_skip rfl ?_; refine ql_skip rfl ?_; refine ql_skip rfl ?_; refine ql_skip rfl ?_; refine ql_skip rfl ?_; refine ql_skip rfl ?_; refine ql_skip rfl ?_; refine ql_skip rfl ?_; refine ql_skip rfl ?_; refine ql_skip rfl ?_; refine ql_skip rfl ?_; refine ql_skip rfl ?_; refine ql_skip rfl ?_; refine ql_v rfl (o_pick_t rfl (by conv => lhs; whnf)) ?_; refine ql_v rfl (o_assign (by conv => lhs; whnf)) ?_; refine ql_nil ?_; exact ⟨_, by first | exact (decide_eq_true (by omega)).symm | exact (decide_eq_false (by omega)).symm | (rw [decide_eq_decide]; omega), rfl, rfl, rfl, rfl, rfl, rfl, rfl, rfl, rfl, rfl⟩
                            · have g139 : ¬ (q7.at_ < E.at_) := by first | exact of_decide_eq_false h | (have h2 := h; simp at h2; omega) | simpa using h
                              refine ql_v rfl (o_move (by conv => lhs; whnf)) ?_; refine ql_v rfl (o_move (by conv => lhs; whnf)) ?_; refine ql_v rfl (o_ixP (a := a19) Try.underlying22 sz35 rfl rfl (by omega) (nn_rs (by repeat (first | with_reducible exact rs_sl | assumption | apply Rs.left)) (fun _ => by rw [mcs_len]; omega))) ?_; refine ql_v rfl (o_faP (a := a19) (m := 0) (o := 1) Try.underlying35 rfl rfl sz3 rfl (nn_rs (by repeat (first | with_reducible exact rs_sl | assumption | apply Rs.left)) (fun _ => by rw [mcs_len]; omega))) ?_; refine ql_v rfl (o_ldP (a := a19) p3 rfl (by repeat (first | with_reducible exact rs_sl | assumption | apply Rs.left)) (by rw [mcs_f1 (by omega)])) ?_; refine ql_env (d := 144) (v := .int .i64 q7.at_) (by rw [← hx]; rfl) ?_; refine ql_v rfl (o_fieldAddr (o := 0) Try.underlying24 rfl rfl sz3 rfl) ?_; refine ql_v rfl (by first | exact o_load p3 rfl (by repeat (first | with_reducible exact has_here | with_reducible exact has_pt | apply has_left)) rfl | exact o_loadC p3 rfl (by assumption)) ?_; refine ql_v rfl (o_eqi rfl rfl) ?_; refine ql_v rfl (o_move (by conv => lhs; whnf)) ?_; refine ql_bool (d := 148) rfl (fun h => ?_) (fun h => ?_)
                              · have g148 : (q7.at_ = E.at_) := by first | exact of_decide_eq_true h | (have h2 := h; simp at h2; omega) | simpa using h
                                refine ql_v rfl (o_move (by conv => lhs; whnf)) ?_; refine ql_v rfl (o_move (by conv => lhs; whnf)) ?_; refine ql_v rfl (o_ixP (a := a19) Try.underlying22 sz35 rfl rfl (by omega) (nn_rs (by repeat (first | with_reducible exact rs_sl | assumption | apply Rs.left)) (fun _ => by rw [mcs_len]; omega))) ?_; refine ql_v rfl (o_faP (a := a19) (m := 0) (o := 2) Try.underlying35 rfl rfl sz5 rfl (nn_rs (by repeat (first | with_reducible exact rs_sl | assumption | apply Rs.left)) (fun _ => by rw [mcs_len]; omega))) ?_; refine ql_v rfl (o_ldP (a := a19) p5 rfl (by repeat (first | with_reducible exact rs_sl | assumption | apply Rs.left)) (by rw [mcs_f2 (by omega)])) ?_; refine ql_env (d := 153) (v := .int .u8 (q7.gr : Nat)) (by rw [← hx]; rfl) ?_; refine ql_v rfl (o_eqi rfl rfl) ?_; refine ql_v rfl (o_pick_t rfl (by conv => lhs; whnf)) ?_; refine ql_v rfl (o_pick_f rfl (by conv => lhs; whnf)) ?_; refine ql_v rfl (o_assign (by conv => lhs; whnf)) ?_; refine ql_nil ?_; exact ⟨_, by first | exact (decide_eq_true (by omega)).symm | exact (decide_eq_false (by omega)).symm | (rw [decide_eq_decide]; omega), rfl, rfl, rfl, rfl, rfl, rfl, rfl, rfl, rfl, rfl⟩
                              · have g148 : ¬ (q7.at_ = E.at_) := by first | exact of_decide_eq_false h | (have h2 := h; simp at h2; omega) | simpa using h
                                refine ql_skip rfl ?_; refine ql_skip rfl ?_; refine ql_skip rfl ?_; refine ql_skip rfl ?_; refine ql_skip rfl ?_; refine ql_skip rfl ?_; refine ql_v rfl (o_pick_f rfl (by conv => lhs; whnf)) ?_; refine ql_v rfl (o_pick_f rfl (by conv => lhs; whnf)) ?_; refine ql_v rfl (o_assign (by conv => lhs; whnf)) ?_; refine ql_nil ?_; exact ⟨_, by first | exact (decide_eq_true (by omega)).symm | exact (decide_eq_false (by omega)).symm | (rw [decide_eq_decide]; omega), rfl, rfl, rfl, rfl, rfl, rfl, rfl, rfl, rfl, rfl⟩
                          · intro ρ B hI
                            obtain ⟨bb, hbb0, hE17, hE0, hE2, hE4, hE7, hE9, hE11, hE14, hE16, rfl⟩ := hI
                            refine q_then_n ?_; refine tc_env (d := 17) hE17 ?_; refine tc_env (d := 0) hE0 ?_; refine tc_env (d := 2) hE2 ?_; refine tc_env (d := 4) hE4 ?_; refine tc_env (d := 7) hE7 ?_; refine tc_env (d := 9) hE9 ?_; refine tc_env (d := 11) hE11 ?_; refine tc_env (d := 14) hE14 ?_; refine tc_env (d := 16) hE16 ?_
                            clear hE17 hE0 hE2 hE4 hE7 hE9 hE11 hE14 hE16
                            refine tc_seq ?_; refine tc_seq ?_; refine tc_regq mo (by kernel_rfl) ?_; refine ql_v rfl (o_move (by conv => lhs; whnf)) ?_; refine ql_v rfl (o_move (by conv => lhs; whnf)) ?_; refine ql_bool (d := 158) rfl (fun h => ?_) (fun h => ?_)
                            · have hbt := h
                              have hst : q7.at_ < E.at_ ∨ (q7.at_ = E.at_ ∧ q7.gr = 0) := by rw [h] at hbb0; exact of_decide_eq_true hbb0.symm
                              have hbx : q9 = q7 := mk_eq p9a (by omega) p9b
                              refine ql_v rfl (o_move (by conv => lhs; whnf)) ?_; refine ql_v rfl (o_move (by conv => lhs; whnf)) ?_; refine ql_v rfl (o_ixP (a := a41) Try.underlying22 sz35 rfl rfl (by omega) (nn_rs (by repeat (first | with_reducible exact rs_sl | assumption | apply Rs.left)) (fun _ => by rw [mcs_len]; omega))) ?_; refine ql_v rfl (o_ldPN (a := a41) (vs := q9.cells) a35 sz35 rfl (by repeat (first | with_reducible exact rs_sl | assumption | apply Rs.left)) (by rw [mcs_at (by omega), hq9]) rfl (by decide)) ?_; refine ql_v rfl (o_move (by conv => lhs; whnf)) ?_; refine ql_v rfl (o_move (by conv => lhs; whnf)) ?_; refine ql_v rfl (o_ixP (a := a19) Try.underlying22 sz35 rfl rfl (by omega) (nn_rs (by repeat (first | with_reducible exact rs_sl | assumption | apply Rs.left)) (fun _ => by rw [mcs_len]; omega))) ?_; refine ql_v rfl (o_ldPN (a := a19) (vs := q7.cells) a35 sz35 rfl (by repeat (first | with_reducible exact rs_sl | assumption | apply Rs.left)) (by rw [mcs_at (by omega), hx]) rfl (by decide)) ?_; refine ql_v rfl (o_neMk (a := q9) (b := q7) rfl rfl) ?_; refine ql_v rfl (o_pick_t rfl (by conv => lhs; whnf)) ?_; refine ql_v rfl (o_move (by conv => lhs; whnf)) ?_; refine ql_bool (d := 169) rfl (fun h => ?_) (fun h => ?_)
                              · exfalso; first | (simp at h; done) | (simp [hbx] at h; done)
                              · try simp only [lv1, lv2, lv3, lv4, lv5, lv6, Bool.not_true, Bool.not_false] at h
                                refine ql_v rfl (o_move (by conv => lhs; whnf)) ?_; refine ql_v rfl (o_not rfl) ?_; refine ql_v rfl (o_move (by conv => lhs; whnf)) ?_; refine ql_bool (d := 172) rfl (fun h => ?_) (fun h => ?_)
                                · have h172 := h
                                  refine ql_v rfl (o_move (by conv => lhs; whnf)) ?_; refine ql_v rfl (o_move (by conv => lhs; whnf)) ?_; refine ql_v rfl (o_ixP (a := a41) Try.underlying22 sz35 rfl rfl (by omega) (nn_rs (by repeat (first | with_reducible exact rs_sl | assumption | apply Rs.left)) (fun _ => by rw [mcs_len]; omega))) ?_; refine ql_v rfl (o_faP (a := a41) (m := 0) (o := 1) Try.underlying35 rfl rfl sz3 rfl (nn_rs (by repeat (first | with_reducible exact rs_sl | assumption | apply Rs.left)) (fun _ => by rw [mcs_len]; omega))) ?_; refine ql_v rfl (o_ldP (a := a41) p3 rfl (by repeat (first | with_reducible exact rs_sl | assumption | apply Rs.left)) (by rw [mcs_f1 (by omega)])) ?_; refine ql_env (d := 177) (v := .int .i64 q9.at_) (by rw [← hq9]; rfl) ?_; refine ql_v rfl (o_move (by conv => lhs; whnf)) ?_; refine ql_v rfl (o_move (by conv => lhs; whnf)) ?_; refine ql_v rfl (o_ixP (a := a51) Try.underlying22 sz35 rfl rfl (by omega) (nn_rs (by repeat (first | with_reducible exact rs_sl | assumption | apply Rs.left)) (fun _ => by rw [mcs_len]; omega))) ?_; refine ql_v rfl (o_faP (a := a51) (m := 0) (o := 1) Try.underlying35 rfl rfl sz3 rfl (nn_rs (by repeat (first | with_reducible exact rs_sl | assumption | apply Rs.left)) (fun _ => by rw [mcs_len]; omega))) ?_
                                  refine ql_v rfl (o_ldP (a := a51) p3 rfl (by repeat (first | with_reducible exact rs_sl | assumption | apply Rs.left)) (by rw [mcs_f1 (by omega)])) ?_; refine ql_env (d := 182) (v := .int .i64 q11.at_) (by rw [← hq11]; rfl) ?_; refine ql_v rfl (o_subI rfl rfl (by omega)) ?_; refine ql_v rfl (o_move (by conv => lhs; whnf)) ?_; refine ql_v rfl (o_nei rfl rfl) ?_; refine ql_v rfl (o_pick_t rfl (by conv => lhs; whnf)) ?_; refine ql_v rfl (o_pick_f rfl (by conv => lhs; whnf)) ?_; refine ql_nil ?_; refine q_then_n ?_; refine tc_cond rfl (fun h => ?_) (fun h => ?_)
                                  · exfalso; first | (simp at h; done) | (simp [hbt] at h172; done) | (simp at h; omega)
                                  · try simp only [lv1, lv2, lv3, lv4, lv5, lv6, Bool.not_true, Bool.not_false] at h
                                    refine tc_skip ?_; refine q_then_n ?_; refine tc_seq ?_; refine tc_regq mo (by kernel_rfl) ?_; refine ql_v rfl (o_move (by conv => lhs; whnf)) ?_; refine ql_v rfl (o_move (by conv => lhs; whnf)) ?_; refine ql_v rfl (o_ixP (a := a19) Try.underlying22 sz35 rfl rfl (by omega) (nn_rs (by repeat (first | with_reducible exact rs_sl | assumption | apply Rs.left)) (fun _ => by rw [mcs_len]; omega))) ?_; refine ql_v rfl (o_faP (a := a19) (m := 0) (o := 1) Try.underlying35 rfl rfl sz3 rfl (nn_rs (by repeat (first | with_reducible exact rs_sl | assumption | apply Rs.left)) (fun _ => by rw [mcs_len]; omega))) ?_; refine ql_v rfl (o_ldP (a := a19) p3 rfl (by repeat (first | with_reducible exact rs_sl | assumption | apply Rs.left)) (by rw [mcs_f1 (by omega)])) ?_; refine ql_env (d := 192) (v := .int .i64 q7.at_) (by rw [← hx]; rfl) ?_; refine ql_v rfl (o_fieldAddr (o := 0) Try.underlying24 rfl rfl sz3 rfl) ?_; refine ql_v rfl (by first | exact o_load p3 rfl (by repeat (first | with_reducible exact has_here | with_reducible exact has_pt | apply has_left)) rfl | exact o_loadC p3 rfl (by assumption)) ?_
                                    refine ql_v rfl (o_lss rfl rfl) ?_; refine ql_v rfl (o_move (by conv => lhs; whnf)) ?_; refine ql_bool (d := 196) rfl (fun h => ?_) (fun h => ?_)
                                    · have g196 : q7.at_ < E.at_ := by first | exact of_decide_eq_true h | simpa using h
                                      have hkx : q14 = q7 := mk_eq (by omega) (by omega) (by omega)
                                      refine ql_skip rfl ?_; refine ql_skip rfl ?_; refine ql_skip rfl ?_; refine ql_skip rfl ?_; refine ql_skip rfl ?_; refine ql_skip rfl ?_; refine ql_skip rfl ?_; refine ql_skip rfl ?_; refine ql_skip rfl ?_; refine ql_skip rfl ?_; refine ql_skip rfl ?_; refine ql_v rfl (o_pick_t rfl (by conv => lhs; whnf)) ?_; refine ql_v rfl (o_move (by conv => lhs; whnf)) ?_; refine ql_v rfl (o_move (by conv => lhs; whnf)) ?_; refine ql_v rfl (o_move (by conv => lhs; whnf)) ?_; refine ql_v rfl (o_ixP (a := a100) Try.underlying22 sz35 rfl rfl (by omega) (nn_rs (by repeat (first | with_reducible exact rs_sl | assumption | apply Rs.left)) (fun _ => by rw [mcs_len]; omega))) ?_; refine ql_v rfl (o_ldPN (a := a100) (vs := q14.cells) a35 sz35 rfl (by repeat (first | with_reducible exact rs_sl | assumption | apply Rs.left)) (by rw [mcs_at (by omega), hq14]) rfl (by decide)) ?_; refine ql_v rfl (o_move (by conv => lhs; whnf)) ?_
                                      refine ql_v rfl (o_move (by conv => lhs; whnf)) ?_; refine ql_v rfl (o_ixP (a := a19) Try.underlying22 sz35 rfl rfl (by omega) (nn_rs (by repeat (first | with_reducible exact rs_sl | assumption | apply Rs.left)) (fun _ => by rw [mcs_len]; omega))) ?_; refine ql_v rfl (o_ldPN (a := a19) (vs := q7.cells) a35 sz35 rfl (by repeat (first | with_reducible exact rs_sl | assumption | apply Rs.left)) (by rw [mcs_at (by omega), hx]) rfl (by decide)) ?_; refine ql_v rfl (o_neMk (a := q14) (b := q7) rfl rfl) ?_; refine ql_v rfl (o_pick_t rfl (by conv => lhs; whnf)) ?_; refine ql_nil ?_; refine q_then_n ?_; refine tc_cond rfl (fun h => ?_) (fun h => ?_)
                                      · exfalso; first | (simp at h; done) | (simp [hkx] at h; done)
                                      · try simp only [lv1, lv2, lv3, lv4, lv5, lv6, Bool.not_true, Bool.not_false] at h
                                        refine tc_skip ?_; refine q_block_n (q_then_n ?_); refine tc_reg ?_; refine tlm ?_; refine tv (by first | exact o_addI rfl rfl (by omega) | exact o_add rfl rfl) ?_; refine tla ?_; refine nq ?_; exact ⟨_, by omega, i + 1, by omega, rfl, rfl, rfl, rfl, rfl, rfl, rfl, rfl, rfl, rfl⟩
                                    · have g196 : ¬ q7.at_ < E.at_ := by first | exact of_decide_eq_false h | simpa using h
                                      refine ql_v rfl (o_move (by conv => lhs; whnf)) ?_; refine ql_v rfl (o_move (by conv => lhs; whnf)) ?_; refine ql_v rfl (o_ixP (a := a19) Try.underlying22 sz35 rfl rfl (by omega) (nn_rs (by repeat (first | with_reducible exact rs_sl | assumption | apply Rs.left)) (fun _ => by rw [mcs_len]; omega))) ?_; refine ql_v rfl (o_faP (a := a19) (m := 0) (o := 1) Try.underlying35 rfl rfl sz3 rfl (nn_rs (by repeat (first | with_reducible exact rs_sl | assumption | apply Rs.left)) (fun _ => by rw [mcs_len]; omega))) ?_; refine ql_v rfl (o_ldP (a := a19) p3 rfl (by repeat (first | with_reducible exact rs_sl | assumption | apply Rs.left)) (by rw [mcs_f1 (by omega)])) ?_; refine ql_env (d := 201) (v := .int .i64 q7.at_) (by rw [← hx]; rfl) ?_; refine ql_v rfl (o_fieldAddr (o := 0) Try.underlying24 rfl rfl sz3 rfl) ?_; refine ql_v rfl (by first | exact o_load p3 rfl (by repeat (first | with_reducible exact has_here | with_reducible exact has_pt | apply has_left)) rfl | exact o_loadC p3 rfl (by assumption)) ?_; refine ql_v rfl (o_fieldAddr (o := 1) Try.underlying24 rfl rfl sz3 rfl) ?_; refine ql_v rfl (by first | exact o_load p3 rfl (by repeat (first | with_reducible exact has_here | with_reducible exact has_pt | apply has_left)) rfl | exact o_loadC p3 rfl (by assumption)) ?_
                                      refine ql_v rfl (by first | exact o_addI rfl rfl (by omega) | exact o_add rfl rfl) ?_; refine ql_v rfl (o_gtr rfl rfl) ?_; refine ql_v rfl (o_pick_f rfl (by conv => lhs; whnf)) ?_; refine ql_v rfl (o_move (by conv => lhs; whnf)) ?_; refine ql_bool (d := 209) rfl (fun h => ?_) (fun h => ?_)
                                      · have hkx : q14 = q7 := by first | assumption | (have g2 : E.at_ + E.out < q7.at_ := (by first | exact of_decide_eq_true h | simpa using h); exact mk_eq (by omega) (by omega) (by omega))
                                        refine ql_v rfl (o_move (by conv => lhs; whnf)) ?_; refine ql_v rfl (o_move (by conv => lhs; whnf)) ?_; refine ql_v rfl (o_ixP (a := a100) Try.underlying22 sz35 rfl rfl (by omega) (nn_rs (by repeat (first | with_reducible exact rs_sl | assumption | apply Rs.left)) (fun _ => by rw [mcs_len]; omega))) ?_; refine ql_v rfl (o_ldPN (a := a100) (vs := q14.cells) a35 sz35 rfl (by repeat (first | with_reducible exact rs_sl | assumption | apply Rs.left)) (by rw [mcs_at (by omega), hq14]) rfl (by decide)) ?_; refine ql_v rfl (o_move (by conv => lhs; whnf)) ?_; refine ql_v rfl (o_move (by conv => lhs; whnf)) ?_; refine ql_v rfl (o_ixP (a := a19) Try.underlying22 sz35 rfl rfl (by omega) (nn_rs (by repeat (first | with_reducible exact rs_sl | assumption | apply Rs.left)) (fun _ => by rw [mcs_len]; omega))) ?_; refine ql_v rfl (o_ldPN (a := a19) (vs := q7.cells) a35 sz35 rfl (by repeat (first | with_reducible exact rs_sl | assumption | apply Rs.left)) (by rw [mcs_at (by omega), hx]) rfl (by decide)) ?_; refine ql_v rfl (o_neMk (a := q14) (b := q7) rfl rfl) ?_; refine ql_v rfl (o_pick_t rfl (by conv => lhs; whnf)) ?_
                                        refine ql_nil ?_; refine q_then_n ?_; refine tc_cond rfl (fun h => ?_) (fun h => ?_)
                                        · exfalso; first | (simp at h; done) | (simp [hkx] at h; done)
                                        · try simp only [lv1, lv2, lv3, lv4, lv5, lv6, Bool.not_true, Bool.not_false] at h
                                          refine tc_skip ?_; refine q_block_n (q_then_n ?_); refine tc_reg ?_; refine tlm ?_; refine tv (by first | exact o_addI rfl rfl (by omega) | exact o_add rfl rfl) ?_; refine tla ?_; refine nq ?_; exact ⟨_, by omega, i + 1, by omega, rfl, rfl, rfl, rfl, rfl, rfl, rfl, rfl, rfl, rfl⟩
                                      · try simp only [lv1, lv2, lv3, lv4, lv5, lv6, Bool.not_true, Bool.not_false] at h
                                        refine ql_skip rfl ?_; refine ql_skip rfl ?_; refine ql_skip rfl ?_; refine ql_skip rfl ?_; refine ql_skip rfl ?_; refine ql_skip rfl ?_; refine ql_skip rfl ?_; refine ql_skip rfl ?_; refine ql_skip rfl ?_; refine ql_v rfl (o_pick_f rfl (by conv => lhs; whnf)) ?_; refine ql_nil ?_; refine q_then_n ?_; refine tc_cond_f rfl ?_; refine tc_skip ?_; refine q_block_n (q_then_n ?_); refine tc_reg ?_; refine tlm ?_; refine tv (by first | exact o_addI rfl rfl (by omega) | exact o_add rfl rfl) ?_; refine tla ?_; refine nq ?_; exact ⟨_, by omega, i + 1, by omega, rfl, rfl, rfl, rfl, rfl, rfl, rfl, rfl, rfl, rfl⟩
                                · try simp only [lv1, lv2, lv3, lv4, lv5, lv6, Bool.not_true, Bool.not_false] at h
                                  refine ql_skip rfl ?_; refine ql_skip rfl ?_; refine ql_skip rfl ?_; refine ql_skip rfl ?_; refine ql_skip rfl ?_; refine ql_skip rfl ?_; refine ql_skip rfl ?_; refine ql_skip rfl ?_; refine ql_skip rfl ?_; refine ql_skip rfl ?_; refine ql_skip rfl ?_; refine ql_skip rfl ?_; refine ql_skip rfl ?_; refine ql_v rfl (o_pick_f rfl (by conv => lhs; whnf)) ?_; refine ql_v rfl (o_pick_f rfl (by conv => lhs; whnf)) ?_; refine ql_nil ?_; refine q_then_n ?_; refine tc_cond_f rfl ?_; refine tc_skip ?_; refine q_then_n ?_; refine tc_seq ?_; refine tc_regq mo (by kernel_rfl) ?_; refine ql_v rfl (o_move (by conv => lhs; whnf)) ?_; refine ql_v rfl (o_move (by conv => lhs; whnf)) ?_; refine ql_v rfl (o_ixP (a := a19) Try.underlying22 sz35 rfl rfl (by omega) (nn_rs (by repeat (first | with_reducible exact rs_sl | assumption | apply Rs.left)) (fun _ => by rw [mcs_len]; omega))) ?_
                                  refine ql_v rfl (o_faP (a := a19) (m := 0) (o := 1) Try.underlying35 rfl rfl sz3 rfl (nn_rs (by repeat (first | with_reducible exact rs_sl | assumption | apply Rs.left)) (fun _ => by rw [mcs_len]; omega))) ?_; refine ql_v rfl (o_ldP (a := a19) p3 rfl (by repeat (first | with_reducible exact rs_sl | assumption | apply Rs.left)) (by rw [mcs_f1 (by omega)])) ?_; refine ql_env (d := 192) (v := .int .i64 q7.at_) (by rw [← hx]; rfl) ?_; refine ql_v rfl (o_fieldAddr (o := 0) Try.underlying24 rfl rfl sz3 rfl) ?_; refine ql_v rfl (by first | exact o_load p3 rfl (by repeat (first | with_reducible exact has_here | with_reducible exact has_pt | apply has_left)) rfl | exact o_loadC p3 rfl (by assumption)) ?_; refine ql_v rfl (o_lss rfl rfl) ?_; refine ql_v rfl (o_move (by conv => lhs; whnf)) ?_; refine ql_bool (d := 196) rfl (fun h => ?_) (fun h => ?_)
                                  · have g196 : q7.at_ < E.at_ := by first | exact of_decide_eq_true h | simpa using h
                                    have hkx : q14 = q7 := mk_eq (by omega) (by omega) (by omega)
                                    refine ql_skip rfl ?_; refine ql_skip rfl ?_; refine ql_skip rfl ?_; refine ql_skip rfl ?_; refine ql_skip rfl ?_; refine ql_skip rfl ?_; refine ql_skip rfl ?_; refine ql_skip rfl ?_; refine ql_skip rfl ?_; refine ql_skip rfl ?_; refine ql_skip rfl ?_; refine ql_v rfl (o_pick_t rfl (by conv => lhs; whnf)) ?_; refine ql_v rfl (o_move (by conv => lhs; whnf)) ?_; refine ql_v rfl (o_move (by conv => lhs; whnf)) ?_; refine ql_v rfl (o_move (by conv => lhs; whnf)) ?_; refine ql_v rfl (o_ixP (a := a100) Try.underlying22 sz35 rfl rfl (by omega) (nn_rs (by repeat (first | with_reducible exact rs_sl | assumption | apply Rs.left)) (fun _ => by rw [mcs_len]; omega))) ?_; refine ql_v rfl (o_ldPN (a := a100) (vs := q14.cells) a35 sz35 rfl (by repeat (first | with_reducible exact rs_sl | assumption | apply Rs.left)) (by rw [mcs_at (by omega), hq14]) rfl (by decide)) ?_; refine ql_v rfl (o_move (by conv => lhs; whnf)) ?_
                                    refine ql_v rfl (o_move (by conv => lhs; whnf)) ?_; refine ql_v rfl (o_ixP (a := a19) Try.underlying22 sz35 rfl rfl (by omega) (nn_rs (by repeat (first | with_reducible exact rs_sl | assumption | apply Rs.left)) (fun _ => by rw [mcs_len]; omega))) ?_; refine ql_v rfl (o_ldPN (a := a19) (vs := q7.cells) a35 sz35 rfl (by repeat (first | with_reducible exact rs_sl | assumption | apply Rs.left)) (by rw [mcs_at (by omega), hx]) rfl (by decide)) ?_; refine ql_v rfl (o_neMk (a := q14) (b := q7) rfl rfl) ?_; refine ql_v rfl (o_pick_t rfl (by conv => lhs; whnf)) ?_; refine ql_nil ?_; refine q_then_n ?_; refine tc_cond rfl (fun h => ?_) (fun h => ?_)
                                    · exfalso; first | (simp at h; done) | (simp [hkx] at h; done)
                                    · try simp only [lv1, lv2, lv3, lv4, lv5, lv6, Bool.not_true, Bool.not_false] at h
                                      refine tc_skip ?_; refine q_block_n (q_then_n ?_); refine tc_reg ?_; refine tlm ?_; refine tv (by first | exact o_addI rfl rfl (by omega) | exact o_add rfl rfl) ?_; refine tla ?_; refine nq ?_; exact ⟨_, by omega, i + 1, by omega, rfl, rfl, rfl, rfl, rfl, rfl, rfl, rfl, rfl, rfl⟩
                                  · have g196 : ¬ q7.at_ < E.at_ := by first | exact of_decide_eq_false h | simpa using h
                                    refine ql_v rfl (o_move (by conv => lhs; whnf)) ?_; refine ql_v rfl (o_move (by conv => lhs; whnf)) ?_; refine ql_v rfl (o_ixP (a := a19) Try.underlying22 sz35 rfl rfl (by omega) (nn_rs (by repeat (first | with_reducible exact rs_sl | assumption | apply Rs.left)) (fun _ => by rw [mcs_len]; omega))) ?_; refine ql_v rfl (o_faP (a := a19) (m := 0) (o := 1) Try.underlying35 rfl rfl sz3 rfl (nn_rs (by repeat (first | with_reducible exact rs_sl | assumption | apply Rs.left)) (fun _ => by rw [mcs_len]; omega))) ?_; refine ql_v rfl (o_ldP (a := a19) p3 rfl (by repeat (first | with_reducible exact rs_sl | assumption | apply Rs.left)) (by rw [mcs_f1 (by omega)])) ?_; refine ql_env (d := 201) (v := .int .i64 q7.at_) (by rw [← hx]; rfl) ?_; refine ql_v rfl (o_fieldAddr (o := 0) Try.underlying24 rfl rfl sz3 rfl) ?_; refine ql_v rfl (by first | exact o_load p3 rfl (by repeat (first | with_reducible exact has_here | with_reducible exact has_pt | apply has_left)) rfl | exact o_loadC p3 rfl (by assumption)) ?_; refine ql_v rfl (o_fieldAddr (o := 1) Try.underlying24 rfl rfl sz3 rfl) ?_; refine ql_v rfl (by first | exact o_load p3 rfl (by repeat (first | with_reducible exact has_here | with_reducible exact has_pt | apply has_left)) rfl | exact o_loadC p3 rfl (by assumption)) ?_
                                    refine ql_v rfl (by first | exact o_addI rfl rfl (by omega) | exact o_add rfl rfl) ?_; refine ql_v rfl (o_gtr rfl rfl) ?_; refine ql_v rfl (o_pick_f rfl (by conv => lhs; whnf)) ?_; refine ql_v rfl (o_move (by conv => lhs; whnf)) ?_; refine ql_bool (d := 209) rfl (fun h => ?_) (fun h => ?_)
                                    · have hkx : q14 = q7 := by first | assumption | (have g2 : E.at_ + E.out < q7.at_ := (by first | exact of_decide_eq_true h | simpa using h); exact mk_eq (by omega) (by omega) (by omega))
                                      refine ql_v rfl (o_move (by conv => lhs; whnf)) ?_; refine ql_v rfl (o_move (by conv => lhs; whnf)) ?_; refine ql_v rfl (o_ixP (a := a100) Try.underlying22 sz35 rfl rfl (by omega) (nn_rs (by repeat (first | with_reducible exact rs_sl | assumption | apply Rs.left)) (fun _ => by rw [mcs_len]; omega))) ?_; refine ql_v rfl (o_ldPN (a := a100) (vs := q14.cells) a35 sz35 rfl (by repeat (first | with_reducible exact rs_sl | assumption | apply Rs.left)) (by rw [mcs_at (by omega), hq14]) rfl (by decide)) ?_; refine ql_v rfl (o_move (by conv => lhs; whnf)) ?_; refine ql_v rfl (o_move (by conv => lhs; whnf)) ?_; refine ql_v rfl (o_ixP (a := a19) Try.underlying22 sz35 rfl rfl (by omega) (nn_rs (by repeat (first | with_reducible exact rs_sl | assumption | apply Rs.left)) (fun _ => by rw [mcs_len]; omega))) ?_; refine ql_v rfl (o_ldPN (a := a19) (vs := q7.cells) a35 sz35 rfl (by repeat (first | with_reducible exact rs_sl | assumption | apply Rs.left)) (by rw [mcs_at (by omega), hx]) rfl (by decide)) ?_; refine ql_v rfl (o_neMk (a := q14) (b := q7) rfl rfl) ?_; refine ql_v rfl (o_pick_t rfl (by conv => lhs; whnf)) ?_; refine ql_nil ?_
                                      refine q_then_n ?_; refine tc_cond rfl (fun h => ?_) (fun h => ?_)
                                      · exfalso; first | (simp at h; done) | (simp [hkx] at h; done)
                                      · try simp only [lv1, lv2, lv3, lv4, lv5, lv6, Bool.not_true, Bool.not_false] at h
                                        refine tc_skip ?_; refine q_block_n (q_then_n ?_); refine tc_reg ?_; refine tlm ?_; refine tv (by first | exact o_addI rfl rfl (by omega) | exact o_add rfl rfl) ?_; refine tla ?_; refine nq ?_; exact ⟨_, by omega, i + 1, by omega, rfl, rfl, rfl, rfl, rfl, rfl, rfl, rfl, rfl, rfl⟩
                                    · try simp only [lv1, lv2, lv3, lv4, lv5, lv6, Bool.not_true, Bool.not_false] at h
                                      refine ql_skip rfl ?_; refine ql_skip rfl ?_; refine ql_skip rfl ?_; refine ql_skip rfl ?_; refine ql_skip rfl ?_; refine ql_skip rfl ?_; refine ql_skip rfl ?_; refine ql_skip rfl ?_; refine ql_skip rfl ?_; refine ql_v rfl (o_pick_f rfl (by conv => lhs; whnf)) ?_; refine ql_nil ?_; refine q_then_n ?_; refine tc_cond_f rfl ?_; refine tc_skip ?_; refine q_block_n (q_then_n ?_); refine tc_reg ?_; refine tlm ?_; refine tv (by first | exact o_addI rfl rfl (by omega) | exact o_add rfl rfl) ?_; refine tla ?_; refine nq ?_; exact ⟨_, by omega, i + 1, by omega, rfl, rfl, rfl, rfl, rfl, rfl, rfl, rfl, rfl, rfl⟩
                            · have hbt := h
                              have hst : ¬ (q7.at_ < E.at_ ∨ (q7.at_ = E.at_ ∧ q7.gr = 0)) := by rw [h] at hbb0; exact of_decide_eq_false hbb0.symm
                              refine ql_skip rfl ?_; refine ql_skip rfl ?_; refine ql_skip rfl ?_; refine ql_skip rfl ?_; refine ql_skip rfl ?_; refine ql_skip rfl ?_; refine ql_skip rfl ?_; refine ql_skip rfl ?_; refine ql_skip rfl ?_; refine ql_v rfl (o_pick_f rfl (by conv => lhs; whnf)) ?_; refine ql_v rfl (o_move (by conv => lhs; whnf)) ?_; refine ql_v rfl (o_move (by conv => lhs; whnf)) ?_; refine ql_v rfl (o_not rfl) ?_; refine ql_v rfl (o_move (by conv => lhs; whnf)) ?_; refine ql_bool (d := 172) rfl (fun h => ?_) (fun h => ?_)
                              · have h172 := h
                                refine ql_v rfl (o_move (by conv => lhs; whnf)) ?_; refine ql_v rfl (o_move (by conv => lhs; whnf)) ?_; refine ql_v rfl (o_ixP (a := a41) Try.underlying22 sz35 rfl rfl (by omega) (nn_rs (by repeat (first | with_reducible exact rs_sl | assumption | apply Rs.left)) (fun _ => by rw [mcs_len]; omega))) ?_; refine ql_v rfl (o_faP (a := a41) (m := 0) (o := 1) Try.underlying35 rfl rfl sz3 rfl (nn_rs (by repeat (first | with_reducible exact rs_sl | assumption | apply Rs.left)) (fun _ => by rw [mcs_len]; omega))) ?_; refine ql_v rfl (o_ldP (a := a41) p3 rfl (by repeat (first | with_reducible exact rs_sl | assumption | apply Rs.left)) (by rw [mcs_f1 (by omega)])) ?_; refine ql_env (d := 177) (v := .int .i64 q9.at_) (by rw [← hq9]; rfl) ?_; refine ql_v rfl (o_move (by conv => lhs; whnf)) ?_; refine ql_v rfl (o_move (by conv => lhs; whnf)) ?_; refine ql_v rfl (o_ixP (a := a51) Try.underlying22 sz35 rfl rfl (by omega) (nn_rs (by repeat (first | with_reducible exact rs_sl | assumption | apply Rs.left)) (fun _ => by rw [mcs_len]; omega))) ?_; refine ql_v rfl (o_faP (a := a51) (m := 0) (o := 1) Try.underlying35 rfl rfl sz3 rfl (nn_rs (by repeat (first | with_reducible exact rs_sl | assumption | apply Rs.left)) (fun _ => by rw [mcs_len]; omega))) ?_
                                refine ql_v rfl (o_ldP (a := a51) p3 rfl (by repeat (first | with_reducible exact rs_sl | assumption | apply Rs.left)) (by rw [mcs_f1 (by omega)])) ?_; refine ql_env (d := 182) (v := .int .i64 q11.at_) (by rw [← hq11]; rfl) ?_; refine ql_v rfl (o_subI rfl rfl (by omega)) ?_; refine ql_v rfl (o_move (by conv => lhs; whnf)) ?_; refine ql_v rfl (o_nei rfl rfl) ?_; refine ql_v rfl (o_pick_t rfl (by conv => lhs; whnf)) ?_; refine ql_v rfl (o_pick_f rfl (by conv => lhs; whnf)) ?_; refine ql_nil ?_; refine q_then_n ?_; refine tc_cond rfl (fun h => ?_) (fun h => ?_)
                                · exfalso; first | (simp at h; done) | (simp [hbt] at h172; done) | (simp at h; omega)
                                · try simp only [lv1, lv2, lv3, lv4, lv5, lv6, Bool.not_true, Bool.not_false] at h
                                  refine tc_skip ?_; refine q_then_n ?_; refine tc_seq ?_; refine tc_regq mo (by kernel_rfl) ?_; refine ql_v rfl (o_move (by conv => lhs; whnf)) ?_; refine ql_v rfl (o_move (by conv => lhs; whnf)) ?_; refine ql_v rfl (o_ixP (a := a19) Try.underlying22 sz35 rfl rfl (by omega) (nn_rs (by repeat (first | with_reducible exact rs_sl | assumption | apply Rs.left)) (fun _ => by rw [mcs_len]; omega))) ?_; refine ql_v rfl (o_faP (a := a19) (m := 0) (o := 1) Try.underlying35 rfl rfl sz3 rfl (nn_rs (by repeat (first | with_reducible exact rs_sl | assumption | apply Rs.left)) (fun _ => by rw [mcs_len]; omega))) ?_; refine ql_v rfl (o_ldP (a := a19) p3 rfl (by repeat (first | with_reducible exact rs_sl | assumption | apply Rs.left)) (by rw [mcs_f1 (by omega)])) ?_; refine ql_env (d := 192) (v := .int .i64 q7.at_) (by rw [← hx]; rfl) ?_; refine ql_v rfl (o_fieldAddr (o := 0) Try.underlying24 rfl rfl sz3 rfl) ?_; refine ql_v rfl (by first | exact o_load p3 rfl (by repeat (first | with_reducible exact has_here | with_reducible exact has_pt | apply has_left)) rfl | exact o_loadC p3 rfl (by assumption)) ?_; refine ql_v rfl (o_lss rfl rfl) ?_
                                  refine ql_v rfl (o_move (by conv => lhs; whnf)) ?_; refine ql_bool (d := 196) rfl (fun h => ?_) (fun h => ?_)
                                  · have g196 : q7.at_ < E.at_ := by first | exact of_decide_eq_true h | simpa using h
                                    have hkx : q14 = q7 := mk_eq (by omega) (by omega) (by omega)
                                    refine ql_skip rfl ?_; refine ql_skip rfl ?_; refine ql_skip rfl ?_; refine ql_skip rfl ?_; refine ql_skip rfl ?_; refine ql_skip rfl ?_; refine ql_skip rfl ?_; refine ql_skip rfl ?_; refine ql_skip rfl ?_; refine ql_skip rfl ?_; refine ql_skip rfl ?_; refine ql_v rfl (o_pick_t rfl (by conv => lhs; whnf)) ?_; refine ql_v rfl (o_move (by conv => lhs; whnf)) ?_; refine ql_v rfl (o_move (by conv => lhs; whnf)) ?_; refine ql_v rfl (o_move (by conv => lhs; whnf)) ?_; refine ql_v rfl (o_ixP (a := a100) Try.underlying22 sz35 rfl rfl (by omega) (nn_rs (by repeat (first | with_reducible exact rs_sl | assumption | apply Rs.left)) (fun _ => by rw [mcs_len]; omega))) ?_; refine ql_v rfl (o_ldPN (a := a100) (vs := q14.cells) a35 sz35 rfl (by repeat (first | with_reducible exact rs_sl | assumption | apply Rs.left)) (by rw [mcs_at (by omega), hq14]) rfl (by decide)) ?_; refine ql_v rfl (o_move (by conv => lhs; whnf)) ?_
                                    refine ql_v rfl (o_move (by conv => lhs; whnf)) ?_; refine ql_v rfl (o_ixP (a := a19) Try.underlying22 sz35 rfl rfl (by omega) (nn_rs (by repeat (first | with_reducible exact rs_sl | assumption | apply Rs.left)) (fun _ => by rw [mcs_len]; omega))) ?_; refine ql_v rfl (o_ldPN (a := a19) (vs := q7.cells) a35 sz35 rfl (by repeat (first | with_reducible exact rs_sl | assumption | apply Rs.left)) (by rw [mcs_at (by omega), hx]) rfl (by decide)) ?_; refine ql_v rfl (o_neMk (a := q14) (b := q7) rfl rfl) ?_; refine ql_v rfl (o_pick_t rfl (by conv => lhs; whnf)) ?_; refine ql_nil ?_; refine q_then_n ?_; refine tc_cond rfl (fun h => ?_) (fun h => ?_)
                                    · exfalso; first | (simp at h; done) | (simp [hkx] at h; done)
                                    · try simp only [lv1, lv2, lv3, lv4, lv5, lv6, Bool.not_true, Bool.not_false] at h
                                      refine tc_skip ?_; refine q_block_n (q_then_n ?_); refine tc_reg ?_; refine tlm ?_; refine tv (by first | exact o_addI rfl rfl (by omega) | exact o_add rfl rfl) ?_; refine tla ?_; refine nq ?_; exact ⟨_, by omega, i + 1, by omega, rfl, rfl, rfl, rfl, rfl, rfl, rfl, rfl, rfl, rfl⟩
                                  · have g196 : ¬ q7.at_ < E.at_ := by first | exact of_decide_eq_false h | simpa using h
                                    refine ql_v rfl (o_move (by conv => lhs; whnf)) ?_; refine ql_v rfl (o_move (by conv => lhs; whnf)) ?_; refine ql_v rfl (o_ixP (a := a19) Try.underlying22 sz35 rfl rfl (by omega) (nn_rs (by repeat (first | with_reducible exact rs_sl | assumption | apply Rs.left)) (fun _ => by rw [mcs_len]; omega))) ?_; refine ql_v rfl (o_faP (a := a19) (m := 0) (o := 1) Try.underlying35 rfl rfl sz3 rfl (nn_rs (by repeat (first | with_reducible exact rs_sl | assumption | apply Rs.left)) (fun _ => by rw [mcs_len]; omega))) ?_; refine ql_v rfl (o_ldP (a := a19) p3 rfl (by repeat (first | with_reducible exact rs_sl | assumption | apply Rs.left)) (by rw [mcs_f1 (by omega)])) ?_; refine ql_env (d := 201) (v := .int .i64 q7.at_) (by rw [← hx]; rfl) ?_; refine ql_v rfl (o_fieldAddr (o := 0) Try.underlying24 rfl rfl sz3 rfl) ?_; refine ql_v rfl (by first | exact o_load p3 rfl (by repeat (first | with_reducible exact has_here | with_reducible exact has_pt | apply has_left)) rfl | exact o_loadC p3 rfl (by assumption)) ?_; refine ql_v rfl (o_fieldAddr (o := 1) Try.underlying24 rfl rfl sz3 rfl) ?_; refine ql_v rfl (by first | exact o_load p3 rfl (by repeat (first | with_reducible exact has_here | with_reducible exact has_pt | apply has_left)) rfl | exact o_loadC p3 rfl (by assumption)) ?_
                                    refine ql_v rfl (by first | exact o_addI rfl rfl (by omega) | exact o_add rfl rfl) ?_; refine ql_v rfl (o_gtr rfl rfl) ?_; refine ql_v rfl (o_pick_f rfl (by conv => lhs; whnf)) ?_; refine ql_v rfl (o_move (by conv => lhs; whnf)) ?_; refine ql_bool (d := 209) rfl (fun h => ?_) (fun h => ?_)
                                    · have hkx : q14 = q7 := by first | assumption | (have g2 : E.at_ + E.out < q7.at_ := (by first | exact of_decide_eq_true h | simpa using h); exact mk_eq (by omega) (by omega) (by omega))
                                      refine ql_v rfl (o_move (by conv => lhs; whnf)) ?_; refine ql_v rfl (o_move (by conv => lhs; whnf)) ?_; refine ql_v rfl (o_ixP (a := a100) Try.underlying22 sz35 rfl rfl (by omega) (nn_rs (by repeat (first | with_reducible exact rs_sl | assumption | apply Rs.left)) (fun _ => by rw [mcs_len]; omega))) ?_; refine ql_v rfl (o_ldPN (a := a100) (vs := q14.cells) a35 sz35 rfl (by repeat (first | with_reducible exact rs_sl | assumption | apply Rs.left)) (by rw [mcs_at (by omega), hq14]) rfl (by decide)) ?_; refine ql_v rfl (o_move (by conv => lhs; whnf)) ?_; refine ql_v rfl (o_move (by conv => lhs; whnf)) ?_; refine ql_v rfl (o_ixP (a := a19) Try.underlying22 sz35 rfl rfl (by omega) (nn_rs (by repeat (first | with_reducible exact rs_sl | assumption | apply Rs.left)) (fun _ => by rw [mcs_len]; omega))) ?_; refine ql_v rfl (o_ldPN (a := a19) (vs := q7.cells) a35 sz35 rfl (by repeat (first | with_reducible exact rs_sl | assumption | apply Rs.left)) (by rw [mcs_at (by omega), hx]) rfl (by decide)) ?_; refine ql_v rfl (o_neMk (a := q14) (b := q7) rfl rfl) ?_; refine ql_v rfl (o_pick_t rfl (by conv => lhs; whnf)) ?_; refine ql_nil ?_
                                      refine q_then_n ?_; refine tc_cond rfl (fun h => ?_) (fun h => ?_)
                                      · exfalso; first | (simp at h; done) | (simp [hkx] at h; done)
                                      · try simp only [lv1, lv2, lv3, lv4, lv5, lv6, Bool.not_true, Bool.not_false] at h
                                        refine tc_skip ?_; refine q_block_n (q_then_n ?_); refine tc_reg ?_; refine tlm ?_; refine tv (by first | exact o_addI rfl rfl (by omega) | exact o_add rfl rfl) ?_; refine tla ?_; refine nq ?_; exact ⟨_, by omega, i + 1, by omega, rfl, rfl, rfl, rfl, rfl, rfl, rfl, rfl, rfl, rfl⟩
                                    · try simp only [lv1, lv2, lv3, lv4, lv5, lv6, Bool.not_true, Bool.not_false] at h
                                      refine ql_skip rfl ?_; refine ql_skip rfl ?_; refine ql_skip rfl ?_; refine ql_skip rfl ?_; refine ql_skip rfl ?_; refine ql_skip rfl ?_; refine ql_skip rfl ?_; refine ql_skip rfl ?_; refine ql_skip rfl ?_; refine ql_v rfl (o_pick_f rfl (by conv => lhs; whnf)) ?_; refine ql_nil ?_; refine q_then_n ?_; refine tc_cond_f rfl ?_; refine tc_skip ?_; refine q_block_n (q_then_n ?_); refine tc_reg ?_; refine tlm ?_; refine tv (by first | exact o_addI rfl rfl (by omega) | exact o_add rfl rfl) ?_; refine tla ?_; refine nq ?_; exact ⟨_, by omega, i + 1, by omega, rfl, rfl, rfl, rfl, rfl, rfl, rfl, rfl, rfl, rfl⟩
                              · try simp only [lv1, lv2, lv3, lv4, lv5, lv6, Bool.not_true, Bool.not_false] at h
                                refine ql_skip rfl ?_; refine ql_skip rfl ?_; refine ql_skip rfl ?_; refine ql_skip rfl ?_; refine ql_skip rfl ?_; refine ql_skip rfl ?_; refine ql_skip rfl ?_; refine ql_skip rfl ?_; refine ql_skip rfl ?_; refine ql_skip rfl ?_; refine ql_skip rfl ?_; refine ql_skip rfl ?_; refine ql_skip rfl ?_; refine ql_v rfl (o_pick_f rfl (by conv => lhs; whnf)) ?_; refine ql_v rfl (o_pick_f rfl (by conv => lhs; whnf)) ?_; refine ql_nil ?_; refine q_then_n ?_; refine tc_cond_f rfl ?_; refine tc_skip ?_; refine q_then_n ?_; refine tc_seq ?_; refine tc_regq mo (by kernel_rfl) ?_; refine ql_v rfl (o_move (by conv => lhs; whnf)) ?_; refine ql_v rfl (o_move (by conv => lhs; whnf)) ?_; refine ql_v rfl (o_ixP (a := a19) Try.underlying22 sz35 rfl rfl (by omega) (nn_rs (by repeat (first | with_reducible exact rs_sl | assumption | apply Rs.left)) (fun _ => by rw [mcs_len]; omega))) ?_
                                refine ql_v rfl (o_faP (a := a19) (m := 0) (o := 1) Try.underlying35 rfl rfl sz3 rfl (nn_rs (by repeat (first | with_reducible exact rs_sl | assumption | apply Rs.left)) (fun _ => by rw [mcs_len]; omega))) ?_; refine ql_v rfl (o_ldP (a := a19) p3 rfl (by repeat (first | with_reducible exact rs_sl | assumption | apply Rs.left)) (by rw [mcs_f1 (by omega)])) ?_; refine ql_env (d := 192) (v := .int .i64 q7.at_) (by rw [← hx]; rfl) ?_; refine ql_v rfl (o_fieldAddr (o := 0) Try.underlying24 rfl rfl sz3 rfl) ?_; refine ql_v rfl (by first | exact o_load p3 rfl (by repeat (first | with_reducible exact has_here | with_reducible exact has_pt | apply has_left)) rfl | exact o_loadC p3 rfl (by assumption)) ?_; refine ql_v rfl (o_lss rfl rfl) ?_; refine ql_v rfl (o_move (by conv => lhs; whnf)) ?_; refine ql_bool (d := 196) rfl (fun h => ?_) (fun h => ?_)
                                · have g196 : q7.at_ < E.at_ := by first | exact of_decide_eq_true h | simpa using h
                                  have hkx : q14 = q7 := mk_eq (by omega) (by omega) (by omega)
                                  refine ql_skip rfl ?_; refine ql_skip rfl ?_; refine ql_skip rfl ?_; refine ql_skip rfl ?_; refine ql_skip rfl ?_; refine ql_skip rfl ?_; refine ql_skip rfl ?_; refine ql_skip rfl ?_; refine ql_skip rfl ?_; refine ql_skip rfl ?_; refine ql_skip rfl ?_; refine ql_v rfl (o_pick_t rfl (by conv => lhs; whnf)) ?_; refine ql_v rfl (o_move (by conv => lhs; whnf)) ?_; refine ql_v rfl (o_move (by conv => lhs; whnf)) ?_; refine ql_v rfl (o_move (by conv => lhs; whnf)) ?_; refine ql_v rfl (o_ixP (a := a100) Try.underlying22 sz35 rfl rfl (by omega) (nn_rs (by repeat (first | with_reducible exact rs_sl | assumption | apply Rs.left)) (fun _ => by rw [mcs_len]; omega))) ?_; refine ql_v rfl (o_ldPN (a := a100) (vs := q14.cells) a35 sz35 rfl (by repeat (first | with_reducible exact rs_sl | assumption | apply Rs.left)) (by rw [mcs_at (by omega), hq14]) rfl (by decide)) ?_; refine ql_v rfl (o_move (by conv => lhs; whnf)) ?_; refine ql_v rfl (o_move (by conv => lhs; whnf)) ?_
                                  refine ql_v rfl (o_ixP (a := a19) Try.underlying22 sz35 rfl rfl (by omega) (nn_rs (by repeat (first | with_reducible exact rs_sl | assumption | apply Rs.left)) (fun _ => by rw [mcs_len]; omega))) ?_; refine ql_v rfl (o_ldPN (a := a19) (vs := q7.cells) a35 sz35 rfl (by repeat (first | with_reducible exact rs_sl | assumption | apply Rs.left)) (by rw [mcs_at (by omega), hx]) rfl (by decide)) ?_; refine ql_v rfl (o_neMk (a := q14) (b := q7) rfl rfl) ?_; refine ql_v rfl (o_pick_t rfl (by conv => lhs; whnf)) ?_; refine ql_nil ?_; refine q_then_n ?_; refine tc_cond rfl (fun h => ?_) (fun h => ?_)
                                  · exfalso; first | (simp at h; done) | (simp [hkx] at h; done)
                                  · try simp only [lv1, lv2, lv3, lv4, lv5, lv6, Bool.not_true, Bool.not_false] at h
                                    refine tc_skip ?_; refine q_block_n (q_then_n ?_); refine tc_reg ?_; refine tlm ?_; refine tv (by first | exact o_addI rfl rfl (by omega) | exact o_add rfl rfl) ?_; refine tla ?_; refine nq ?_; exact ⟨_, by omega, i + 1, by omega, rfl, rfl, rfl, rfl, rfl, rfl, rfl, rfl, rfl, rfl⟩
                                · have g196 : ¬ q7.at_ < E.at_ := by first | exact of_decide_eq_false h | simpa using h
                                  refine ql_v rfl (o_move (by conv => lhs; whnf)) ?_; refine ql_v rfl (o_move (by conv => lhs; whnf)) ?_; refine ql_v rfl (o_ixP (a := a19) Try.underlying22 sz35 rfl rfl (by omega) (nn_rs (by repeat (first | with_reducible exact rs_sl | assumption | apply Rs.left)) (fun _ => by rw [mcs_len]; omega))) ?_; refine ql_v rfl (o_faP (a := a19) (m := 0) (o := 1) Try.underlying35 rfl rfl sz3 rfl (nn_rs (by repeat (first | with_reducible exact rs_sl | assumption | apply Rs.left)) (fun _ => by rw [mcs_len]; omega))) ?_; refine ql_v rfl (o_ldP (a := a19) p3 rfl (by repeat (first | with_reducible exact rs_sl | assumption | apply Rs.left)) (by rw [mcs_f1 (by omega)])) ?_; refine ql_env (d := 201) (v := .int .i64 q7.at_) (by rw [← hx]; rfl) ?_; refine ql_v rfl (o_fieldAddr (o := 0) Try.underlying24 rfl rfl sz3 rfl) ?_; refine ql_v rfl (by first | exact o_load p3 rfl (by repeat (first | with_reducible exact has_here | with_reducible exact has_pt | apply has_left)) rfl | exact o_loadC p3 rfl (by assumption)) ?_; refine ql_v rfl (o_fieldAddr (o := 1) Try.underlying24 rfl rfl sz3 rfl) ?_; refine ql_v rfl (by first | exact o_load p3 rfl (by repeat (first | with_reducible exact has_here | with_reducible exact has_pt | apply has_left)) rfl | exact o_loadC p3 rfl (by assumption)) ?_
                                  refine ql_v rfl (by first | exact o_addI rfl rfl (by omega) | exact o_add rfl rfl) ?_; refine ql_v rfl (o_gtr rfl rfl) ?_; refine ql_v rfl (o_pick_f rfl (by conv => lhs; whnf)) ?_; refine ql_v rfl (o_move (by conv => lhs; whnf)) ?_; refine ql_bool (d := 209) rfl (fun h => ?_) (fun h => ?_)
                                  · have hkx : q14 = q7 := by first | assumption | (have g2 : E.at_ + E.out < q7.at_ := (by first | exact of_decide_eq_true h | simpa using h); exact mk_eq (by omega) (by omega) (by omega))
                                    refine ql_v rfl (o_move (by conv => lhs; whnf)) ?_; refine ql_v rfl (o_move (by conv => lhs; whnf)) ?_; refine ql_v rfl (o_ixP (a := a100) Try.underlying22 sz35 rfl rfl (by omega) (nn_rs (by repeat (first | with_reducible exact rs_sl | assumption | apply Rs.left)) (fun _ => by rw [mcs_len]; omega))) ?_; refine ql_v rfl (o_ldPN (a := a100) (vs := q14.cells) a35 sz35 rfl (by repeat (first | with_reducible exact rs_sl | assumption | apply Rs.left)) (by rw [mcs_at (by omega), hq14]) rfl (by decide)) ?_; refine ql_v rfl (o_move (by conv => lhs; whnf)) ?_; refine ql_v rfl (o_move (by conv => lhs; whnf)) ?_; refine ql_v rfl (o_ixP (a := a19) Try.underlying22 sz35 rfl rfl (by omega) (nn_rs (by repeat (first | with_reducible exact rs_sl | assumption | apply Rs.left)) (fun _ => by rw [mcs_len]; omega))) ?_; refine ql_v rfl (o_ldPN (a := a19) (vs := q7.cells) a35 sz35 rfl (by repeat (first | with_reducible exact rs_sl | assumption | apply Rs.left)) (by rw [mcs_at (by omega), hx]) rfl (by decide)) ?_; refine ql_v rfl (o_neMk (a := q14) (b := q7) rfl rfl) ?_; refine ql_v rfl (o_pick_t rfl (by conv => lhs; whnf)) ?_; refine ql_nil ?_
                                    refine q_then_n ?_; refine tc_cond rfl (fun h => ?_) (fun h => ?_)
                                    · exfalso; first | (simp at h; done) | (simp [hkx] at h; done)
                                    · try simp only [lv1, lv2, lv3, lv4, lv5, lv6, Bool.not_true, Bool.not_false] at h
                                      refine tc_skip ?_; refine q_block_n (q_then_n ?_); refine tc_reg ?_; refine tlm ?_; refine tv (by first | exact o_addI rfl rfl (by omega) | exact o_add rfl rfl) ?_; refine tla ?_; refine nq ?_; exact ⟨_, by omega, i + 1, by omega, rfl, rfl, rfl, rfl, rfl, rfl, rfl, rfl, rfl, rfl⟩
                                  · try simp only [lv1, lv2, lv3, lv4, lv5, lv6, Bool.not_true, Bool.not_false] at h
                                    refine ql_skip rfl ?_; refine ql_skip rfl ?_; refine ql_skip rfl ?_; refine ql_skip rfl ?_; refine ql_skip rfl ?_; refine ql_skip rfl ?_; refine ql_skip rfl ?_; refine ql_skip rfl ?_; refine ql_skip rfl ?_; refine ql_v rfl (o_pick_f rfl (by conv => lhs; whnf)) ?_; refine ql_nil ?_; refine q_then_n ?_; refine tc_cond_f rfl ?_; refine tc_skip ?_; refine q_block_n (q_then_n ?_); refine tc_reg ?_; refine tlm ?_; refine tv (by first | exact o_addI rfl rfl (by omega) | exact o_add rfl rfl) ?_; refine tla ?_; refine nq ?_; exact ⟨_, by omega, i + 1, by omega, rfl, rfl, rfl, rfl, rfl, rfl, rfl, rfl, rfl, rfl⟩
                      · try simp only [lv1, lv2, lv3, lv4, lv5, lv6, Bool.not_true, Bool.not_false] at h
                        refine tc_exit ?_; refine q_then_e (q_then_e (q_block_x (q_then_n ?_))); refine sr ?_; refine tl_c rfl (o_call bd15 rfl (worksM_c)) ?_; rintro _ _ ⟨rfl, rfl⟩; refine tla ?_; refine nq ?_; refine tc_ret ?_; exact ⟨.bool true, F, res1 rfl rfl, Dr.sat (by repeat (first | with_reducible exact dr_refl | apply dr_keep | apply dr_drop)), rfl, rfl⟩
theorem MarksTwo_L (F : SP) (v : Value) (l : List Mk) (h : PMkG F [v] l) (cs : Array Value) (x : Ed) (hx : cs.toList = x.cells ∧ EdW x) (v2 : Value) (z : Int) (h2 : PInt .i64 [v2] z) : Fn Try.prog 5 #[v, .agg cs, v2] F (fun r B => r = .bool true ∧ B = F) := by
  obtain ⟨a, c, e, hc, hs, hr, hw⟩ := h
  obtain ⟨e2, w2⟩ := h2
  simp only [List.cons.injEq, and_true] at e e2
  subst e e2
  obtain rfl : cs = x.cells.toArray := by rw [← hx.1]
  exact MarksTwo_f F hr rfl hw hx.2 (reach_mk hs) (i64_wf w2)
end Go.Vl
