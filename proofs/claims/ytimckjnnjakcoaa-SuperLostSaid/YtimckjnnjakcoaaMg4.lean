/- What the row rests on, part 4: a calculus of assertions, walks of functions over it, and plain laws. Conditions: none. -/
import Derived.Deep.QuietTactic
import Derived.BigQuiet
import Derived.WalkKit
import Derived.Test.YtimckjnnjakcoaaProg
import Derived.OrdersHeld
import Derived.Laws.BytesArg
import Derived.RangeFuncRecord
import Derived.TacticsIn
import Derived.Deep.Slices
import Derived.OpenShut
import Derived.ChangeArms
import Derived.SizedLaws
import Derived.ChangeSame
import Derived.Test.YtimckjnnjakcoaaRows
import Derived.Test.YtimckjnnjakcoaaMg3
set_option linter.unusedVariables false
set_option linter.unusedSimpArgs false
namespace Go.Vl
open Go Go.Proofs
theorem old_heap' {W w : World} {g : Gh} (h : sat g w (old W)) {k : Nat} (hk : k < W.heap.size) : w.heap[k]? = W.heap[k]? := by
  obtain ⟨x, rfl, hx⟩ := h.hp
  have := Array.getElem?_eq_getElem hk
  rw [this]; exact hx _ _ true (by simp [this])
theorem cell_old' {W : World} {b off : Nat} {v : Value} (h : W.cell? ⟨b, off, none⟩ = some v) : Cell (old W) b off v := fun g w hs => by
  have hb : b < W.heap.size := by
    rcases Nat.lt_or_ge b W.heap.size with h1 | h1
    · exact h1
    · exfalso
      have : W.heap[b]? = none := Array.getElem?_eq_none h1
      simp [World.cell?, this] at h
  have := old_heap' hs hb
  rw [← h]; simp only [World.cell?, this]
theorem rs_old {W : World} {a : Addr} {xs : List Value} (h : ∀ i v, xs[i]? = some v → W.cell? (a.add i) = some v) : Rs (old W) (some a) xs := by
  cases xs with
  | nil => exact rs_nil
  | cons x l =>
    obtain ⟨b, off, spot⟩ := a
    have h0 := h 0 x rfl
    have hspot : spot = none := by simpa [Addr.add] using World.cell?_spot h0
    subst hspot
    refine fun g w hs i v hv => ⟨b, off, rfl, ?_⟩
    have := h i v hv
    rw [WideShapes.add_plain] at this
    exact cell_old' this g w hs
/-- Whatever lies there as a value of type t, by the argument's own reading, r holds of. -/
def Rdb {α : Type} (P : Program) (W : World) (t : TypeId) (r : List Value → α → Prop) : Prop :=
  ∀ (H : Type) (enc : TypeId × Value → H) (spare : Nat → Bool) (held : Bool) (fuel : Nat) (cs : List Value) (d : DataW H) (pl : List MemPlace),
    DataW.trod enc P W 0 spare held fuel t cs = some (d, pl) → (∀ n ∈ d.weights P t, n ≤ reachBytes) → ∃ x, r cs x
theorem Rdb.mono {α β : Type} {P : Program} {W : World} {t : TypeId} {r : List Value → α → Prop} {q : List Value → β → Prop} (h : Rdb P W t r) (k : ∀ cs x, r cs x → ∃ y, q cs y) : Rdb P W t q :=
  fun H enc sp hd fu cs d pl h1 h2 => by obtain ⟨x, hx⟩ := h H enc sp hd fu cs d pl h1 h2; exact k cs x hx
def PInt (k : IntKind) (cs : List Value) (n : Int) : Prop := cs = [.int k n] ∧ (Lit.int k n).wf = true
theorem rdb_int {P : Program} {W : World} {t : TypeId} {k : IntKind} (ht : P.underlying t = some (.int k)) : Rdb P W t (PInt k) := fun H enc sp hd fu cs d pl h _ => by
  obtain ⟨n, e, _, hw⟩ := DataW.trod_int ht h
  exact ⟨n, e, hw⟩
def PBool (cs : List Value) (b : Bool) : Prop := cs = [.bool b]
theorem rdb_bool {P : Program} {W : World} {t : TypeId} (ht : P.underlying t = some .bool) : Rdb P W t PBool := fun H enc sp hd fu cs d pl h _ => by
  obtain ⟨b, e, _⟩ := DataW.trod_bool ht h
  exact ⟨b, e⟩
/-- A slice: its elements' cells, and what each is. -/
def PSl {α : Type} (A : SP) (k b : Nat) (r : List Value → α → Prop) (cs : List Value) (xs : List α) : Prop :=
  ∃ (a : Option Addr) (cap : Nat) (Cs : List (List Value)), cs = [.slice a xs.length cap] ∧ xs.length ≤ cap ∧ xs.length * b ≤ reachBytes ∧ Cs.length = xs.length ∧ (∀ i (h : i < xs.length) (h' : i < Cs.length), Cs[i].length = k ∧ r Cs[i] xs[i]) ∧ Rs A a Cs.flatten
theorem weightsAll_mem {H : Type} {P : Program} {e : TypeId} : ∀ {l : List (DataW H)} {d : DataW H}, d ∈ l → ∀ n ∈ d.weights P e, n ∈ DataW.weightsAll P e l
  | x :: l, d, h, n, hn => by
    simp only [DataW.weightsAll, List.mem_append]
    rcases List.mem_cons.1 h with rfl | h
    · exact .inl hn
    · exact .inr (weightsAll_mem h n hn)
theorem flat_at {k : Nat} : ∀ {Cs : List (List Value)} (_ : ∀ c ∈ Cs, c.length = k) {i j : Nat} (_ : j < k) (hi : i < Cs.length), Cs.flatten[i * k + j]? = Cs[i][j]?
  | c :: Cs, h, 0, j, hj, _ => by
    rw [Nat.zero_mul, Nat.zero_add, List.flatten_cons, List.getElem?_append_left (by rw [h c (by simp)]; exact hj)]; rfl
  | c :: Cs, h, i + 1, j, hj, hi => by
    have hc := h c (by simp)
    rw [List.flatten_cons, List.getElem?_append_right (by rw [hc, Nat.add_mul]; omega), hc, show (i + 1) * k + j - k = i * k + j by rw [Nat.add_mul]; omega]
    exact flat_at (fun x hx => h x (List.mem_cons_of_mem _ hx)) hj (by simpa using hi)
theorem flat_length {k : Nat} : ∀ {Cs : List (List Value)} (_ : ∀ c ∈ Cs, c.length = k), Cs.flatten.length = Cs.length * k
  | [], _ => by simp
  | c :: Cs, h => by
    rw [List.flatten_cons, List.length_append, h c (by simp), flat_length (fun x hx => h x (List.mem_cons_of_mem _ hx)), List.length_cons, Nat.add_mul]; omega
theorem rdb_slice {α : Type} {P : Program} {W : World} {t e : TypeId} {k b : Nat} {r : List Value → α → Prop} (ht : P.underlying t = some (.slice e)) (hk : P.cellsOf e = k) (hb : P.bytesOf e = b) (hk0 : 0 < k) (hr : Rdb P W e r) : Rdb P W t (PSl (old W) k b r) := fun H enc sp hd fu cs d pl h hw => by
  rcases Deep.open_slice ht h with ⟨rfl, _⟩ | ⟨a, len, cap, m, n, D, Pl, rfl, _, hl, _, hm, hx, hel⟩
  · exact ⟨[], none, 0, [], rfl, Nat.le_refl _, by simp, rfl, fun i h => by simp at h, rs_nil⟩
  · have hlm : len ≤ m := by rw [hm]; split <;> omega
    simp only [Prod.mk.injEq] at hx
    obtain ⟨rfl, _⟩ := hx
    have hall : ∀ n ∈ DataW.weights P t (DataW.slice ((List.range len).map D) ((List.range (m - len)).map fun j => D (len + j))), n ≤ reachBytes := hw
    have hw1 : (len + (m - len)) * P.bytesOf e ≤ reachBytes := by
      have := hall ((len + (m - len)) * P.bytesOf e) (by simp [DataW.weights, ht])
      exact this
    have hex : ∀ i, i < len → ∃ p : List Value × α, p.1.length = k ∧ r p.1 p.2 ∧ ∀ j v, p.1[j]? = some v → W.cell? (a.add (i * k + j)) = some v := fun i hi => by
      obtain ⟨cs', h1, h2⟩ := hel i (by omega)
      rw [hk] at h1
      obtain ⟨_, hlen, h3⟩ := World.cells?_some h1
      obtain ⟨x, hx⟩ := hr H enc sp hd n cs' (D i) (Pl i) h2 (fun n hn => hall n (by
        simp only [DataW.weights, ht, List.mem_cons, List.mem_append]
        refine .inr (.inl (weightsAll_mem (d := D i) ?_ n hn))
        exact List.mem_map.2 ⟨i, List.mem_range.2 hi, rfl⟩))
      refine ⟨(cs', x), hlen, hx, fun j v hv => ?_⟩
      have hj : j < k := by have h9 : j < cs'.length := lt_at hv; omega
      have := h3 j hj
      rw [Deep.add_add] at this
      rw [this, hv]
    rcases Nat.eq_zero_or_pos len with h0 | h0
    · subst h0
      exact ⟨[], some a, cap, [], rfl, Nat.zero_le _, by simp, rfl, fun i h => by simp at h, rs_nil⟩
    · obtain ⟨p0, _⟩ := hex 0 h0
      haveI : Inhabited (List Value × α) := ⟨p0⟩
      obtain ⟨f, hf⟩ := Deep.choose_lt hex
      refine ⟨(List.range len).map fun i => (f i).2, some a, cap, (List.range len).map fun i => (f i).1, by simp, by simpa using hl, ?_, by simp, fun i h h' => ?_, rs_old fun i v hv => ?_⟩
      · simp only [List.length_map, List.length_range, ← hb]
        exact Nat.le_trans (Nat.mul_le_mul_right _ (by omega)) hw1
      · simp only [List.length_map, List.length_range] at h
        simp only [List.getElem_map, List.getElem_range]
        exact ⟨(hf i h).1, (hf i h).2.1⟩
      · have hCk : ∀ c ∈ (List.range len).map fun i => (f i).1, c.length = k := fun c hc => by
          obtain ⟨i, hi, rfl⟩ := List.mem_map.1 hc
          exact (hf i (List.mem_range.1 hi)).1
        have hi := lt_at hv
        rw [flat_length hCk, List.length_map, List.length_range] at hi
        have hq : i / k < len := Nat.div_lt_of_lt_mul (by rw [Nat.mul_comm]; exact hi)
        have hm2 : i % k < k := Nat.mod_lt _ hk0
        have e : i = i / k * k + i % k := (Nat.div_add_mod' i k).symm
        rw [e, flat_at hCk hm2 (by simpa using hq)] at hv
        simp only [List.getElem_map, List.getElem_range] at hv
        rw [e]
        exact (hf (i / k) hq).2.2 _ v hv
/-- The fields of a struct, one by one. -/
theorem rdb_fields {P : Program} {W : World} {t : TypeId} {fs : Array Field} (ht : P.underlying t = some (.struct fs)) {H : Type} {enc : TypeId × Value → H} {sp : Nat → Bool} {hd : Bool} {fu : Nat} {cs : List Value} {d : DataW H} {pl : List MemPlace}
    (h : DataW.trod enc P W 0 sp hd fu t cs = some (d, pl)) (hw : ∀ n ∈ d.weights P t, n ≤ reachBytes) : cs.length = P.cellsOf t ∧
    ∀ (j : Nat) (f : Field), fs[j]? = some f → ∀ {α : Type} {r : List Value → α → Prop}, Rdb P W f.type r → ∃ x, r ((cs.drop f.offset).take (P.cellsOf f.type)) x := by
  obtain ⟨xs, n, _, hx, hl, hlen, hf⟩ := DataW.trod_struct ht h
  refine ⟨hl, fun j f hj α r hr => ?_⟩
  simp only [Prod.mk.injEq] at hx
  obtain ⟨rfl, _⟩ := hx
  have hj' : j < xs.length := by
    have h1 : j < fs.size := (Array.getElem?_eq_some_iff.1 hj).1
    have h2 : xs.length = fs.size := by simpa using hlen
    omega
  have := hf j f hj
  rw [List.getElem?_eq_getElem hj'] at this
  refine hr H enc sp hd n _ xs[j].1 xs[j].2 this (fun m hm => hw m ?_)
  simp only [DataW.weights, ht]
  exact DataW.weights_mem_each (ts := fs.toList.map (·.type)) (ds := xs.map (·.1)) (j := j) (t := f.type) (d := xs[j].1) (by simp [hj]) (by simp [hj']) m hm
theorem flat1 {α : Type} {r : List Value → α → Prop} {f : α → Value} : ∀ {Cs : List (List Value)} {xs : List α} (_ : Cs.length = xs.length) (_ : ∀ i (h : i < xs.length) (h' : i < Cs.length), Cs[i] = [f xs[i]]), Cs.flatten = xs.map f
  | [], [], _, _ => rfl
  | c :: Cs, x :: xs, hl, h => by
    have h0 := h 0 (by simp) (by simp)
    simp only [List.getElem_cons_zero] at h0
    rw [List.flatten_cons, h0, flat1 (r := r) (f := f) (Cs := Cs) (xs := xs) (by simpa using hl) (fun i hi hi' => h (i + 1) (by simpa using hi) (by simpa using hi'))]; rfl
/-- Bytes. -/
def PBys (A : SP) (cs : List Value) (xs : List Nat) : Prop := ∃ a cap, cs = [.slice a xs.length cap] ∧ xs.length ≤ cap ∧ xs.length ≤ 140737488351232 ∧ Rs A a (bys xs) ∧ ∀ x ∈ xs, x < 256
def PInts (A : SP) (cs : List Value) (xs : List Int) : Prop := ∃ a cap, cs = [.slice a xs.length cap] ∧ xs.length ≤ cap ∧ xs.length ≤ 17592186043904 ∧ Rs A a (ints xs) ∧ ∀ x ∈ xs, -9223372036854775808 ≤ x ∧ x ≤ 9223372036854775807
theorem i64_wf {x : Int} (h : (Lit.int .i64 x).wf = true) : -9223372036854775808 ≤ x ∧ x ≤ 9223372036854775807 := Go.bounds_i64 h
theorem rdb_bys {P : Program} {W : World} {t e : TypeId} (ht : P.underlying t = some (.slice e)) (he : P.underlying e = some (.int .u8)) (hk : P.cellsOf e = 1) (hb : P.bytesOf e = 1) : Rdb P W t (PBys (old W)) :=
  (rdb_slice ht hk hb (by decide) (rdb_int he)).mono fun cs zs ⟨a, cap, Cs, e1, hc, hs, hl, hx, hr⟩ => by
    have hz : ∀ z ∈ zs, 0 ≤ z ∧ z ≤ 255 := fun z hz => by
      obtain ⟨i, hi, rfl⟩ := List.mem_iff_getElem.1 hz
      exact Go.bounds_u8 (hx i hi (by omega)).2.2
    have e2 : Cs.flatten = bys (zs.map Int.toNat) := by
      rw [flat1 (r := PInt .u8) (f := fun z : Int => .int .u8 z) hl (fun i h h' => (hx i h h').2.1), bys, List.map_map]
      refine List.map_congr_left fun z hzm => ?_
      have := hz z hzm
      simp only [Function.comp, b8]; congr 1; omega
    refine ⟨zs.map Int.toNat, a, cap, by simpa using e1, by simpa using hc, ?_, by rw [← e2]; exact hr, fun x hx => ?_⟩
    · simp only [List.length_map]; unfold reachBytes at hs; omega
    · obtain ⟨z, hzm, rfl⟩ := List.mem_map.1 hx
      have := hz z hzm; omega
theorem rdb_ints {P : Program} {W : World} {t e : TypeId} (ht : P.underlying t = some (.slice e)) (he : P.underlying e = some (.int .i64)) (hk : P.cellsOf e = 1) (hb : P.bytesOf e = 8) : Rdb P W t (PInts (old W)) :=
  (rdb_slice ht hk hb (by decide) (rdb_int he)).mono fun cs zs ⟨a, cap, Cs, e1, hc, hs, hl, hx, hr⟩ => by
    refine ⟨zs, a, cap, e1, hc, by unfold reachBytes at hs; omega, ?_, fun z hz => ?_⟩
    · rw [show ints zs = Cs.flatten from (flat1 (r := PInt .i64) (f := fun z : Int => .int .i64 z) hl (fun i h h' => (hx i h h').2.1)).symm]; exact hr
    · obtain ⟨i, hi, rfl⟩ := List.mem_iff_getElem.1 hz
      exact i64_wf (hx i hi (by omega)).2.2
end Go.Vl

set_option linter.unusedVariables false
set_option linter.unusedSimpArgs false
namespace Go.Vl
open Go Go.Proofs
abbrev ub {H : Type} (d : DataW H) : Nat := Go.Proofs.Ytimckjnnjakcoaa.Rows.uptoBulk d
abbrev ubs {H : Type} (l : List (DataW H)) : Nat := Go.Proofs.Ytimckjnnjakcoaa.Rows.uptoBulkAll l
/-- Whatever lies there as a value of type t, by the argument's own reading, r holds of, and of how much. -/
def Rdu {α : Type} (P : Program) (W : World) (t : TypeId) (r : List Value → α → Prop) (sz : α → Nat) : Prop :=
  ∀ (H : Type) (enc : TypeId × Value → H) (spare : Nat → Bool) (held : Bool) (fuel : Nat) (cs : List Value) (d : DataW H) (pl : List MemPlace),
    DataW.trod enc P W 0 spare held fuel t cs = some (d, pl) → ∃ x, r cs x ∧ sz x ≤ ub d
theorem Rdu.mono {α β : Type} {P : Program} {W : World} {t : TypeId} {r : List Value → α → Prop} {s : α → Nat} {q : List Value → β → Prop} {z : β → Nat} (h : Rdu P W t r s) (k : ∀ cs x, r cs x → ∃ y, q cs y ∧ z y ≤ s x) : Rdu P W t q z :=
  fun H enc sp hd fu cs d pl h1 => by
    obtain ⟨x, hx, hs⟩ := h H enc sp hd fu cs d pl h1
    obtain ⟨y, hy, hz⟩ := k cs x hx
    exact ⟨y, hy, by omega⟩
/-- A slice: its elements' cells, and what each is. -/
def PSu {α : Type} (A : SP) (k : Nat) (r : List Value → α → Prop) (cs : List Value) (xs : List α) : Prop :=
  ∃ (a : Option Addr) (cap : Nat) (Cs : List (List Value)), cs = [.slice a xs.length cap] ∧ xs.length ≤ cap ∧ Cs.length = xs.length ∧ (∀ i (h : i < xs.length) (h' : i < Cs.length), Cs[i].length = k ∧ r Cs[i] xs[i]) ∧ Rs A a Cs.flatten
def szL {α : Type} (sz : α → Nat) (xs : List α) : Nat := (xs.map sz).sum + 1
/-- Bytes. -/
def PByU (A : SP) (cs : List Value) (xs : List Nat) : Prop := ∃ a cap, cs = [.slice a xs.length cap] ∧ xs.length ≤ cap ∧ Rs A a (bys xs) ∧ ∀ x ∈ xs, x < 256
def PInU (A : SP) (cs : List Value) (xs : List Int) : Prop := ∃ a cap, cs = [.slice a xs.length cap] ∧ xs.length ≤ cap ∧ Rs A a (ints xs) ∧ ∀ x ∈ xs, -9223372036854775808 ≤ x ∧ x ≤ 9223372036854775807
end Go.Vl

set_option linter.unusedVariables false
set_option linter.unusedSimpArgs false
namespace Go.Vl
open Go Go.Proofs
/-- An operation's cells. -/
structure Op9 where
  k : Int
  q : Int
  n : Int
  a : Option Addr
  c : Nat
  b : List Nat
  v : Nat
  ka : Option Addr
  kc : Nat
  kp : List Int
def Op9.cells (t : Op9) : List Value := [.int .i64 t.k, .int .i64 t.q, .int .i64 t.n, .slice t.a t.b.length t.c, .int .u64 (t.v : Nat), .slice t.ka t.kp.length t.kc]
structure Op9W (A : SP) (t : Op9) : Prop where
  cap : t.b.length ≤ t.c
  rs : Rs A t.a (bys t.b)
  byt : ∀ x ∈ t.b, x < 256
  v : t.v < 18446744073709551616
  kcap : t.kp.length ≤ t.kc
  krs : Rs A t.ka (ints t.kp)
  kb : ∀ x ∈ t.kp, -9223372036854775808 ≤ x ∧ x ≤ 9223372036854775807
  q : -9223372036854775808 ≤ t.q ∧ t.q ≤ 9223372036854775807
  n : -9223372036854775808 ≤ t.n ∧ t.n ≤ 9223372036854775807
def Op9.sz (t : Op9) : Nat := t.b.length + t.kp.length + 1
def ocs (l : List Op9) : List Value := l.flatMap Op9.cells
def POps (A : SP) (cs : List Value) (ops : List Op9) : Prop := ∃ a cap, cs = [.slice a ops.length cap] ∧ ops.length ≤ cap ∧ Rs A a (ocs ops) ∧ ∀ t ∈ ops, Op9W A t
/-! ### An operation on the device alone -/
def rawS (t : Op9) (s : DevS) : DevS := if t.k = 7 then (sto ((wi t.q 256 : Nat) : Int) (t.b.take (256 - wi t.q 256)) s).2 else if t.k = 8 then (fl1 ((wi t.q 256 : Nat) : Int) s).2 else if t.k = 9 then (fe s).2 else s
theorem room_le {a b : Nat} {s : DevS} (h : Room a s) (hab : b ≤ a) : Room b s := fun l hl => Nat.le_trans (Nat.add_le_add_left hab _) (h l hl)
def rawL (l : List Op9) (s : DevS) : DevS := l.foldl (fun s t => rawS t s) s
/-- The same, but what would be stored into the range is passed over. -/
def rawB (at_ m : Nat) (t : Op9) (s : DevS) : DevS := if t.k = 7 ∧ wi t.q 256 < at_ + m ∧ at_ < wi t.q 256 + t.b.length then s else rawS t s
def rawLB (at_ m : Nat) (l : List Op9) (s : DevS) : DevS := l.foldl (fun s t => rawB at_ m t s) s
theorem cut_none {a : Option Addr} {c : Nat} : cutAddr a c 0 1 = a := by
  unfold cutAddr
  split
  · rfl
  · cases a <;> simp [Addr.add]
theorem bys_take (b : List Nat) (n : Nat) : (bys b).take n = bys (b.take n) := by unfold bys; rw [List.map_take]
attribute [local irreducible] Sl pt ro Dev imgS
end Go.Vl

set_option linter.unusedVariables false
set_option linter.unusedSimpArgs false
namespace Go.Vl
open Go Go.Proofs
theorem done_room {r : Nat} {s : DevS} (hw : WfD s) (h : Room r s) : Room r (doneS s) := by
  rcases done_loss (X := fun _ _ => True) hw (fun _ _ _ _ _ => trivial) with ⟨_, h2, _⟩ | ⟨_, h1, h2, h3, _, h5⟩
  · unfold Room; rw [h2]; exact h
  · intro l hl
    have hp := hw.pos
    have h0 := h _ (List.getElem_mem hp)
    have h4 := List.length_pos_iff.2 (hw.line _ (List.getElem_mem hp)).ne
    have := h3 l hl
    omega
theorem storeF_room : ∀ (m : Nat) {p r : Nat} {b : List Nat} {s : DevS}, b.length = m → WfD s → (∀ x ∈ b, x < 256) → Room (r + m) s → Room r (storeF b.length p b s).2 ∧ WfD (storeF b.length p b s).2 := by
  intro m
  induction m using Nat.strongRecOn with
  | _ m ih =>
    intro p r b s hm hw hb hroom
    by_cases h0 : b = []
    · subst h0
      rw [storeF_nil]
      exact ⟨room_le hroom (by omega), hw⟩
    · have hpos : 0 < b.length := List.length_pos_iff.2 h0
      have hr1 : Room 1 s := room_le hroom (by omega)
      have hwL := layS_wf (at_ := p - p % 8) hw hr1 (stW_nm (p := p) (s := s) hb)
      have hroom2 : Room (r + (m - min m (8 - p % 8))) (layS (p - p % 8) (nm (stW p b s)) s) := fun l hl => by
        have := onLine_room (r := r + m - 1) (f := layL ((p - p % 8) % 64 / 8) (nm (stW p b s))) (i := (p - p % 8) / 64) (fun l hl => by have := hroom l hl; omega) (fun l => by simp [layL]) l hl
        omega
      have hk : (b.drop (8 - p % 8)).length = m - min m (8 - p % 8) := by rw [List.length_drop]; omega
      rw [storeF_step h0]
      split
      · exact ⟨room_le (done_room hwL hroom2) (by omega), doneS_wf hwL⟩
      · exact ih (m - min m (8 - p % 8)) (by omega) hk (doneS_wf hwL) (fun x hx => hb x (List.mem_of_mem_drop hx)) (done_room hwL hroom2)
theorem fence_wf {s : DevS} (hw : WfD s) : WfD (fenceS s) := ⟨by simp [fenceS]; exact hw.pos, by simp [fenceS]; exact hw.top, fun l hl => by
  simp only [fenceS, List.mem_map] at hl
  obtain ⟨l0, h0, rfl⟩ := hl
  exact fenceL_wf (hw.line l0 h0), hw.arms, hw.after, hw.keeps⟩
theorem flF_room {r : Nat} : ∀ (k q : Nat) (s : DevS), WfD s → Room r s → Room r (flF k q s).2 ∧ WfD (flF k q s).2
  | 0, q, s, hw, h => by
    rw [flF_zero]
    unfold fe
    split
    · exact ⟨h, hw⟩
    · refine ⟨done_room (fence_wf hw) fun l hl => ?_, doneS_wf (fence_wf hw)⟩
      simp only [fenceS, List.mem_map] at hl
      obtain ⟨l0, h0, rfl⟩ := hl
      have h3 : (fenceL l0).st.length ≤ l0.st.length := by unfold fenceL; split <;> simp
      have := h l0 h0
      omega
  | k + 1, q, s, hw, h => by
    have hk : Room r (fl1 ((q * 64 : Nat) : Int) s).2 ∧ WfD (fl1 ((q * 64 : Nat) : Int) s).2 := by
      unfold fl1
      split
      · exact ⟨h, hw⟩
      · refine ⟨done_room (flushS_wf hw) fun l hl => ?_, doneS_wf (flushS_wf hw)⟩
        unfold flushS onLine at hl
        split at hl
        · rcases List.mem_or_eq_of_mem_set hl with h1 | h1
          · exact h l h1
          · rw [h1]
            rename_i l0 e
            exact h l0 (List.mem_of_getElem? e)
        · exact h l hl
    show Room r (if _ then _ else _ : Int × DevS).2 ∧ WfD (if _ then _ else _ : Int × DevS).2
    split
    · exact hk
    · exact flF_room k (q + 1) _ hk.2 hk.1
theorem bytesP_room {r : Nat} {p : Int} {u : List Nat} {s : DevS} (hw : WfD s) (hb : ∀ x ∈ u, x < 256) (h : Room (r + u.length) s) : Room r (bytesP p u s).2 ∧ WfD (bytesP p u s).2 := by
  have h0 : Room r s := room_le h (by omega)
  have h1 : Room r (sto p u s).2 ∧ WfD (sto p u s).2 := by
    unfold sto
    split
    · exact ⟨h0, hw⟩
    · exact storeF_room u.length rfl hw hb h
  unfold bytesP
  split
  · exact ⟨h0, hw⟩
  · split
    · exact ⟨h0, hw⟩
    · split
      · exact h1
      · exact flF_room _ _ _ h1.2 h1.1
theorem bytesP_len (p : Int) (u : List Nat) (s : DevS) : (bytesP p u s).2.ls.length = s.ls.length := by
  have hf : ∀ (k q : Nat) (s : DevS), (flF k q s).2.ls.length = s.ls.length := by
    intro k
    induction k with
    | zero =>
      intro q s; rw [flF_zero]; unfold fe; split
      · rfl
      · simp only []; rw [doneS_len]; simp [fenceS]
    | succ k ih =>
      intro q s
      show (if _ then _ else _ : Int × DevS).2.ls.length = _
      split
      · exact fl1_len _ _
      · rw [ih]; exact fl1_len _ _
  unfold bytesP lastS
  split
  · rfl
  · split
    · rfl
    · split
      · exact sto_len _ _ _
      · rw [hf]; exact sto_len _ _ _
/-- Steps, one behind the other. -/
def fmtF : List (Nat × List Nat) → DevS → Int × DevS
  | [], s => (0, s)
  | t :: l, s => if (bytesP (t.1 : Int) t.2 s).1 ≠ 0 then bytesP (t.1 : Int) t.2 s else fmtF l (bytesP (t.1 : Int) t.2 s).2
def fst4 (n : Nat) : List (Nat × List Nat) := [(0, (List.replicate 64 0)), (64, (List.replicate 64 0)), (128, (List.replicate 64 0)), (0, sbB [n, 128, 32768, 32896, (n - 32896) / 256, 0])]
theorem fst4_wf (n : Nat) : ∀ t ∈ fst4 n, t.2.length = 64 ∧ (∀ x ∈ t.2, x < 256) ∧ t.1 ≤ 128 := by
  intro t ht
  have hz : ((List.replicate 64 0) : List Nat).length = 64 ∧ ∀ x ∈ ((List.replicate 64 0) : List Nat), x < 256 := ⟨by simp, fun x hx => by have := List.eq_of_mem_replicate hx; omega⟩
  simp only [fst4, List.mem_cons, List.not_mem_nil, or_false] at ht
  rcases ht with rfl | rfl | rfl | rfl
  · exact ⟨hz.1, hz.2, by decide⟩
  · exact ⟨hz.1, hz.2, by decide⟩
  · exact ⟨hz.1, hz.2, by decide⟩
  · refine ⟨sbB_len rfl, fun x hx => ?_, Nat.zero_le _⟩
    unfold sbB at hx
    rw [List.mem_append] at hx
    rcases hx with hx | hx
    · exact mbs_lt _ x hx
    · exact le_bytes 8 _ x hx
def stC (l : List (Nat × List Nat)) : List Value := l.flatMap fun t => .int .i64 (t.1 : Int) :: bys t.2
theorem stC_at : ∀ {l : List (Nat × List Nat)} {j : Nat} (_ : ∀ t ∈ l, t.2.length = 64) (h : j < l.length), ((stC l).drop (j * 65)).take 65 = .int .i64 (l[j].1 : Int) :: bys l[j].2
  | t :: l, 0, hl, h => by
    have h0 := hl t (by simp)
    have hb : (bys t.2).length = 64 := by rw [bys_length, h0]
    simp only [stC, List.flatMap_cons, Nat.zero_mul, List.drop_zero, List.getElem_cons_zero]
    rw [List.cons_append, List.take_succ_cons, ← hb, List.take_left]
  | t :: l, j + 1, hl, h => by
    have h0 := hl t (by simp)
    have e : (j + 1) * 65 = (Value.int .i64 (t.1 : Int) :: bys t.2).length + j * 65 := by rw [List.length_cons, bys_length, h0]; omega
    rw [e, show stC (t :: l) = (Value.int .i64 (t.1 : Int) :: bys t.2) ++ stC l from rfl, List.drop_length_add_append]
    rw [stC_at (fun t ht => hl t (List.mem_cons_of_mem _ ht)) (by simpa using h)]; rfl
theorem bld_line {z : List Value} {p : Int} {u : List Nat} (hz : z.length = 65) (hu : u.length = 64) : bld [(0, 1), (1, 64)] z [(0, .int .i64 p), (1, .agg (bys u).toArray)] = some (.int .i64 p :: bys u) := by
  have hb : (bys u).length = 64 := by rw [bys_length, hu]
  match z, hz with
  | c :: z, hz =>
    have hz' : z.length = 64 := by simpa using hz
    have e1 : splice (c :: z) 0 [.int .i64 p] = .int .i64 p :: z := by rw [splice_eq (by simp)]; rfl
    have e2 : splice (.int .i64 p :: z) 1 (bys u) = .int .i64 p :: bys u := by
      rw [splice_eq (by simp [hb, hz'])]
      simp only [List.take_succ_cons, List.take_zero, List.cons_append, List.nil_append, hb]
      rw [show 1 + 64 = 64 + 1 by omega, List.drop_succ_cons, List.drop_of_length_le (by omega), List.append_nil]
    have c1 : (Value.int .i64 p).cells.toList = [.int .i64 p] := rfl
    have c2 : (Value.agg (bys u).toArray).cells.toList = bys u := by simp [Value.cells]
    simp only [bld, List.getElem?_cons_zero, List.getElem?_cons_succ, c1, c2]
    simp only [List.length_singleton, e1, e2, hb, List.length_cons, hz']
    rfl
theorem stC_atT {l : List (Nat × List Nat)} {j : Nat} {t : Nat × List Nat} (h0 : ∀ t ∈ l, t.2.length = 64) (h : l[j]? = some t) : ((stC l).drop (j * 65)).take 65 = .int .i64 (t.1 : Int) :: bys t.2 := by
  obtain ⟨hi, rfl⟩ := List.getElem?_eq_some_iff.1 h
  exact stC_at h0 hi
theorem fmt_e {l : List (Nat × List Nat)} {i : Nat} {s s2 : DevS} {e : Int} {t : Nat × List Nat} (hi : l[i]? = some t) (h : bytesP (t.1 : Int) t.2 s = (e, s2)) (he : e ≠ 0) : fmtF (l.drop i) s = (e, s2) := by
  obtain ⟨hi', rfl⟩ := List.getElem?_eq_some_iff.1 hi
  rw [List.drop_eq_getElem_cons hi']; unfold fmtF; rw [h, if_pos he]
theorem fmt_o {l : List (Nat × List Nat)} {i : Nat} {s s2 : DevS} {t : Nat × List Nat} (hi : l[i]? = some t) (h : bytesP (t.1 : Int) t.2 s = (0, s2)) : fmtF (l.drop i) s = fmtF (l.drop (i + 1)) s2 := by
  obtain ⟨hi', rfl⟩ := List.getElem?_eq_some_iff.1 hi
  rw [List.drop_eq_getElem_cons hi']; conv => lhs; unfold fmtF
  rw [h, if_neg (by simp)]
/-- What Format answers, and the device behind it. -/
def fmA (n : Nat) (s : DevS) : List Int × Int := if (fmtF (fst4 n) s).1 ≠ 0 then ([0, 0, 0, 0, 0], (fmtF (fst4 n) s).1) else ([(n : Int), ((128 : Nat) : Int), ((32768 : Nat) : Int), ((32896 : Nat) : Int), (((n - 32896) / 256 : Nat) : Int)], 0)
theorem rs_at1 {R : SP} {b : Nat} {v : Value} {u : List Value} {E : TypeId} : Rs (R * pt b (cl (v :: u) E)) (some ⟨b, 1, none⟩) u := rs_pt (by simp)
attribute [local irreducible] crk crL crc Sl pt ro mbs sbB planT Dev imgS
set_option maxRecDepth 20000 in
set_option maxHeartbeats 2000000 in
theorem Format_ok {A R : SP} {C : SP → SP} {d : Nat} {s : DevS} (hc : Ct A (Dev d s) R C := by repeat (first | with_reducible exact ct_here | apply ct_left)) {n : Nat} (hoff : s.off = false) (hlen : s.ls.length * 64 = n) (hn : 36992 ≤ n ∧ n ≤ 4194304 ∧ n % 64 = 0) (hroom : Room 256 s) :
    Fn Try.prog 75 #[.pointer (some ⟨d, 0, none⟩)] (A) (fun r B => ∃ e s2, fmtF (fst4 n) s = (e, s2) ∧ r = .tuple #[.agg (ints (fmA n s).1).toArray, .int .i64 e] ∧ B = C (Dev d s2)) := by
  refine fn_enterW (args := [.pointer (some ⟨d, 0, none⟩)]) Try.func75 rfl Try.ntmps75 (by simp) ?_
  have hst : stE s = 0 := by unfold stE; rw [hoff]; rfl
  refine tc_have (fun _ _ h => ct_wf2 hc h) fun hw => ?_
  obtain ⟨rfl, hC⟩ := hc
  refine tc_seq ?_
  refine tc_reg ?_
  refine tl_x rfl (o_alloc z23 rfl) ?_
  rintro _ _ ⟨b2, rfl, rfl⟩
  refine tl_v rfl (o_assign (by conv => lhs; whnf)) ?_
  refine tl_nil ?_
  refine q_then_n ?_
  refine tc_seq ?_
  refine tc_seq ?_
  refine tc_reg ?_
  refine tl_v rfl (o_move (by conv => lhs; whnf)) ?_
  refine tl_c rfl (o_call bd102 rfl (state_c (s := s))) ?_
  rintro _ _ ⟨rfl, rfl⟩
  refine tl_env (d := 11) (v := .int .i64 0) (congrArg (Value.int .i64) hst) ?_
  refine tl_v rfl (o_assign (by conv => lhs; whnf)) ?_
  refine tl_nil ?_
  refine q_then_n ?_
  refine tc_seq ?_
  refine tc_reg ?_
  refine tl_v rfl (o_move (by conv => lhs; whnf)) ?_
  refine tl_v rfl (o_nei rfl rfl) ?_
  refine tl_nil ?_
  refine q_then_n ?_
  refine tc_cond rfl (fun h => ?_) (fun h => ?_)
  · exfalso; simp at h
  · try simp only [decide_eq_true_eq, decide_eq_false_iff_not, Bool.not_eq_true', Bool.not_eq_false', Option.isNone_some, Option.isNone_none, Bool.not_true, Bool.not_false] at h
    refine tc_skip ?_
    refine q_then_n ?_
    refine tc_seq ?_
    refine tc_reg ?_
    refine tl_v rfl (o_move (by conv => lhs; whnf)) ?_
    refine tl_c rfl (o_call bd94 rfl (Size_c (s := s))) ?_
    rintro _ _ ⟨rfl, rfl⟩
    refine tl_env (d := 18) (v := .int .i64 (n : Int)) (congrArg (Value.int .i64) (by omega)) ?_
    refine tl_c rfl (o_call bd18 rfl (Plan_ok hn)) ?_
    rintro _ _ ⟨rfl, rfl⟩
    refine tl_v rfl (o_move (by conv => lhs; whnf)) ?_
    refine tl_v rfl (o_extract rfl rfl) ?_
    refine tl_v rfl (o_extract rfl rfl) ?_
    refine tl_x rfl (o_alloc z23 rfl) ?_
    rintro _ _ ⟨b5, rfl, rfl⟩
    refine tl_u rfl (o_stUN (l' := ints [(n : Int), ((128 : Nat) : Int), ((32768 : Nat) : Int), ((32896 : Nat) : Int), (((n - 32896) / 256 : Nat) : Int)]) rfl (by repeat (first | with_reducible exact upd_here | with_reducible exact upd_pt | apply upd_left)) sz23 rfl rfl rfl (by show 5 ≤ 5; decide) rfl) ?_
    refine tl_v rfl (o_assign (by conv => lhs; whnf)) ?_
    refine tl_nil ?_
    refine q_then_n ?_
    refine tc_seq ?_
    refine tc_seq ?_
    refine tc_reg ?_
    refine tl_v rfl (o_move (by conv => lhs; whnf)) ?_
    refine tl_v rfl (o_nei rfl rfl) ?_
    refine tl_nil ?_
    refine q_then_n ?_
    refine tc_cond rfl (fun h => ?_) (fun h => ?_)
    · exfalso; simp at h
    · try simp only [decide_eq_true_eq, decide_eq_false_iff_not, Bool.not_eq_true', Bool.not_eq_false', Option.isNone_some, Option.isNone_none, Bool.not_true, Bool.not_false] at h
      refine tc_skip ?_
      refine q_then_n ?_
      refine tc_seq ?_
      refine tc_seq ?_
      refine tc_reg ?_
      refine tl_v rfl (o_buildA (vs := []) (z := bys (List.replicate 64 0)) Try.underlying139 sz5 z139 rfl rfl rfl (by decide) rfl) ?_
      refine tl_env (d := 26) (v := .agg (bys (List.replicate 64 0)).toArray) (rfl) ?_
      refine tl_v rfl (o_bS (l := .int .i64 0 :: bys (List.replicate 64 0)) (pv_cons (by conv => lhs; whnf) (pv_cons (by conv => lhs; whnf) pv_nil)) Try.underlying179 z179 (pl179 Try.underlying179) (bld_line rfl (by decide))) ?_
      refine tl_v rfl (o_buildA (vs := []) (z := bys (List.replicate 64 0)) Try.underlying139 sz5 z139 rfl rfl rfl (by decide) rfl) ?_
      refine tl_env (d := 28) (v := .agg (bys (List.replicate 64 0)).toArray) (rfl) ?_
      refine tl_v rfl (o_bS (l := .int .i64 64 :: bys (List.replicate 64 0)) (pv_cons (by conv => lhs; whnf) (pv_cons (by conv => lhs; whnf) pv_nil)) Try.underlying179 z179 (pl179 Try.underlying179) (bld_line rfl (by decide))) ?_
      refine tl_v rfl (o_buildA (vs := []) (z := bys (List.replicate 64 0)) Try.underlying139 sz5 z139 rfl rfl rfl (by decide) rfl) ?_
      refine tl_env (d := 30) (v := .agg (bys (List.replicate 64 0)).toArray) (rfl) ?_
      refine tl_v rfl (o_bS (l := .int .i64 128 :: bys (List.replicate 64 0)) (pv_cons (by conv => lhs; whnf) (pv_cons (by conv => lhs; whnf) pv_nil)) Try.underlying179 z179 (pl179 Try.underlying179) (bld_line rfl (by decide))) ?_
      refine tl_v rfl (o_loadN (vs := ints [(n : Int), ((128 : Nat) : Int), ((32768 : Nat) : Int), ((32896 : Nat) : Int), (((n - 32896) / 256 : Nat) : Int)]) a23 sz23 rfl (by repeat (first | with_reducible exact has_here | with_reducible exact has_pt | apply has_left)) (by show 5 ≤ 5; decide) rfl) ?_
      refine tl_c rfl (o_call bd83 rfl (laid_c (by omega))) ?_
      rintro _ _ ⟨rfl, rfl⟩
      refine tl_v rfl (o_bS (l := .int .i64 0 :: bys (sbB [n, 128, 32768, 32896, (n - 32896) / 256, 0])) (pv_cons (by conv => lhs; whnf) (pv_cons (by conv => lhs; whnf) pv_nil)) Try.underlying179 z179 (pl179 Try.underlying179) (bld_line rfl (sbB_len rfl))) ?_
      refine tl_x rfl (o_buildSliceL (k := 65) (vs := (fst4 n).map fun t => .agg (.int .i64 (t.1 : Int) :: bys t.2).toArray) (l := stC (fst4 n)) Try.underlying180 sz179 z179 rfl rfl (by decide) (by decide) (by intro v hv; obtain ⟨t, ht, rfl⟩ := List.mem_map.1 hv; simp only [Value.cells, List.size_toArray, List.length_cons, bys_length, (fst4_wf n t ht).1]) (by rw [List.flatMap_map]; rfl)) ?_
      rintro _ _ ⟨b35, rfl, rfl⟩
      refine tl_v rfl (o_len Try.underlying180 rfl) ?_
      refine tl_v rfl (o_move (by conv => lhs; whnf)) ?_
      refine tl_nil ?_
      refine q_then_n ?_
      refine tc_block ?_
      refine tc_loop (fun kk ρ BB => ∃ (i : Nat) (s1 : DevS), (i ≤ 4) ∧ (fmtF ((fst4 n).drop i) s1 = fmtF (fst4 n) s) ∧ (Room (64 * (4 - i)) s1) ∧ (WfD s1) ∧ (s1.ls.length = s.ls.length) ∧ kk = 4 - i ∧ ρ 37 = .int .i64 (i : Nat) ∧ ρ 0 = .pointer (some ⟨d, 0, none⟩) ∧ ρ 2 = .pointer (some ⟨b2, 0, none⟩) ∧ ρ 5 = .pointer (some ⟨b5, 0, none⟩) ∧ ρ 35 = .slice (some ⟨b35, 0, none⟩) 4 4 ∧ ρ 36 = .int .i64 4 ∧ BB = R * Dev d s1 * pt b2 (cl (ints [0, 0, 0, 0, 0]) 23) * pt b5 (cl (ints [(n : Int), ((128 : Nat) : Int), ((32768 : Nat) : Int), ((32896 : Nat) : Int), (((n - 32896) / 256 : Nat) : Int)]) 23) * pt b35 (cl (stC (fst4 n)) 179)) (m := 4 - (0)) ?_ ?_
      · exact ⟨0, s, by omega, rfl, hroom, hw, rfl, rfl, rfl, rfl, rfl, rfl, rfl, rfl, rfl⟩
      · intro k ρ B hI
        obtain ⟨i, s1, hp0, hp1, hp2, hp3, hp4, hkk1, hE37, hE0, hE2, hE5, hE35, hE36, rfl⟩ := hI
        refine tc_env (d := 37) hE37 ?_
        refine tc_env (d := 0) hE0 ?_
        refine tc_env (d := 2) hE2 ?_
        refine tc_env (d := 5) hE5 ?_
        refine tc_env (d := 35) hE35 ?_
        refine tc_env (d := 36) hE36 ?_
        clear hE37 hE0 hE2 hE5 hE35 hE36
        refine tc_seq ?_
        refine tc_reg ?_
        refine tl_v rfl (o_lss rfl rfl) ?_
        refine tl_nil ?_
        refine q_then_n ?_
        refine tc_seq ?_
        refine tc_cond rfl (fun h => ?_) (fun h => ?_)
        · have hi4 : i < 4 := by simp at h; omega
          obtain ⟨t, hi⟩ : ∃ t, (fst4 n)[i]? = some t := ⟨_, List.getElem?_eq_getElem (show i < (fst4 n).length from hi4)⟩
          obtain ⟨ht1, ht2, ht3⟩ := fst4_wf n _ (List.mem_of_getElem? hi)
          refine tc_skip ?_
          refine q_then_n ?_
          refine tc_seq ?_
          refine tc_block ?_
          refine tc_seq ?_
          refine tc_reg ?_
          refine tl_v rfl (o_ixP (a := some ⟨b35, 0, none⟩) (m := 4) Try.underlying180 sz179 rfl rfl (by omega) (nn_some)) ?_
          refine tl_v rfl (o_ldPN (xs := stC (fst4 n)) (vs := .int .i64 (t.1 : Int) :: bys t.2) a179 sz179 rfl (by repeat (first | with_reducible exact rs_pt0 | apply Rs.left)) (stC_atT (fun t ht => (fst4_wf n t ht).1) hi) (by rw [List.length_cons, bys_length, ht1]) (by decide)) ?_
          refine tl_x rfl (o_alloc z179 rfl) ?_
          rintro _ _ ⟨b8, rfl, rfl⟩
          refine tl_u rfl (o_stUN (l' := .int .i64 (t.1 : Int) :: bys t.2) rfl (by repeat (first | with_reducible exact upd_here | with_reducible exact upd_pt | apply upd_left)) sz179 rfl (by rw [List.length_cons, bys_length, ht1]) (by rw [List.all_cons, bys_all]; rfl) (by simp) (splice_whole (by rw [List.length_cons, bys_length, ht1]; rfl))) ?_
          refine tl_nil ?_
          refine q_then_n ?_
          refine tc_seq ?_
          refine tc_regh (S := R * pt b8 (cl (.int .i64 (t.1 : Int) :: bys t.2) 179)) mo (by repeat (first | with_reducible exact dr_refl | apply dr_keep | apply dr_drop)) ?_
          show TH _ _ _ _ _ 7 #[false, false, false, false, false, false, false] _ _
          refine th_take (i := 0) (listed' := #[true, false, false, false, false, false, false]) rfl (by kernel_rfl) (by kernel_rfl) (by kernel_rfl) rfl rfl (o_move (by conv => lhs; whnf)) ?_
          refine th_take (i := 1) (listed' := #[true, true, false, false, false, false, false]) rfl (by kernel_rfl) (by kernel_rfl) (by kernel_rfl) rfl rfl (o_fieldAddr (o := 0) Try.underlying179 rfl rfl sz3 rfl) ?_
          refine th_take (i := 2) (listed' := #[true, true, true, false, false, false, false]) rfl (by kernel_rfl) (by kernel_rfl) (by kernel_rfl) rfl rfl (by first | exact o_load p3 rfl (by repeat (first | with_reducible exact has_here | with_reducible exact has_pt | apply has_left)) rfl | exact o_loadC p3 rfl (by assumption)) ?_
          refine th_take (i := 3) (listed' := #[true, true, true, true, false, false, false]) rfl (by kernel_rfl) (by kernel_rfl) (by kernel_rfl) rfl rfl (o_fieldAddr (o := 1) Try.underlying179 rfl rfl sz139 rfl) ?_
          refine th_take (i := 4) (listed' := #[true, true, true, true, true, false, false]) rfl (by kernel_rfl) (by kernel_rfl) (by kernel_rfl) rfl rfl (o_sliceA (len := 64) Try.underlying139 sz5 rfl bnd_none bnd_none (by omega) (by omega)) ?_
          refine th_env (d := 45) (v := .slice (some ⟨b8, 1, none⟩) 64 64) (by rfl) ?_
          refine th_one (i := 5) (by kernel_rfl) ?_
          refine oh_c (i := 5) (listed' := #[true, true, true, true, true, true, false]) rfl rfl rfl (o_call bd56 rfl (Bytes_c (s := s1) (p := ((t.1 : Nat) : Int)) (xs := t.2) (hr := (by repeat (first | with_reducible exact rs_at1 | apply Rs.left))) (hm := ht1) (hroom := fun _ => room_le hp2 (by omega)))) ?_
          rintro _ _ ⟨e46, s46, hs46, rfl, rfl⟩
          refine ⟨by repeat (first | with_reducible exact dr_refl | apply dr_keep | apply dr_drop), ?_⟩
          refine th_take (i := 6) (listed' := #[true, true, true, true, true, true, true]) rfl (by kernel_rfl) (by kernel_rfl) (by kernel_rfl) rfl rfl (o_assign (by conv => lhs; whnf)) ?_
          refine th_done (by kernel_rfl) ?_
          refine q_then_n ?_
          refine tc_seq ?_
          refine tc_reg ?_
          refine tl_v rfl (o_move (by conv => lhs; whnf)) ?_
          refine tl_v rfl (o_nei rfl rfl) ?_
          refine tl_nil ?_
          refine q_then_n ?_
          refine tc_cond rfl (fun h => ?_) (fun h => ?_)
          · have h : e46 ≠ 0 := by simpa using h
            refine tc_seq ?_
            refine tc_reg ?_
            refine tl_v rfl (o_bS (l := ints [0, 0, 0, 0, 0]) pv_nil Try.underlying23 z23 (pl23 Try.underlying23) rfl) ?_
            refine tl_v rfl (o_move (by conv => lhs; whnf)) ?_
            refine tl_u rfl (o_stUN (l' := ints [0, 0, 0, 0, 0]) rfl (by repeat (first | with_reducible exact upd_here | with_reducible exact upd_pt | apply upd_left)) sz23 rfl rfl rfl (by show 5 ≤ 5; decide) rfl) ?_
            refine tl_v rfl (o_assign (by conv => lhs; whnf)) ?_
            refine tl_nil ?_
            refine q_then_n ?_
            refine tc_ret ?_
            refine q_block_r (q_then_r (q_then_r (q_block_r (q_then_r ?_))))
            first
            | (have hp : fmtF (fst4 n) s = (e46, s46) := by rw [← hp1]; exact fmt_e hi hs46 h
               have ha : fmA n s = ([0, 0, 0, 0, 0], e46) := by unfold fmA; rw [hp, if_pos h]
               rw [ha]; exact ⟨.tuple #[.agg (ints [0, 0, 0, 0, 0]).toArray, .int .i64 e46], C (Dev d s46), resA2 rfl (rv_cell a23 sz23 rfl (by repeat (first | with_reducible exact has_here | with_reducible exact has_pt | apply has_left)) (by show 5 ≤ 5; decide) rfl) (rv_tmp rfl), fun _ _ h => by rw [hC]; exact (Dr.sat (A' := R * Dev d s46) (by repeat (first | with_reducible exact dr_refl | apply dr_keep | apply dr_drop))) _ _ h, e46, s46, hp, rfl, rfl⟩)
            | (have ha : fmA n s = ([(n : Int), ((128 : Nat) : Int), ((32768 : Nat) : Int), ((32896 : Nat) : Int), (((n - 32896) / 256 : Nat) : Int)], 0) := by unfold fmA; rw [hq, if_neg (by simp)]
               rw [ha]; exact ⟨.tuple #[.agg (ints [(n : Int), ((128 : Nat) : Int), ((32768 : Nat) : Int), ((32896 : Nat) : Int), (((n - 32896) / 256 : Nat) : Int)]).toArray, .int .i64 0], C (Dev d s1), resA2 rfl (rv_cell a23 sz23 rfl (by repeat (first | with_reducible exact has_here | with_reducible exact has_pt | apply has_left)) (by show 5 ≤ 5; decide) rfl) (rv_tmp rfl), fun _ _ h => by rw [hC]; exact (Dr.sat (A' := R * Dev d s1) (by repeat (first | with_reducible exact dr_refl | apply dr_keep | apply dr_drop))) _ _ h, 0, s1, hq, rfl, rfl⟩)
          · obtain rfl : e46 = 0 := by simpa using h
            refine tc_skip ?_
            refine q_block_n (q_then_n ?_)
            refine tc_pre (Dr.sat (A' := R * Dev d s46 * pt b2 (cl (ints [0, 0, 0, 0, 0]) 23) * pt b5 (cl (ints [(n : Int), ((128 : Nat) : Int), ((32768 : Nat) : Int), ((32896 : Nat) : Int), (((n - 32896) / 256 : Nat) : Int)]) 23) * pt b35 (cl (stC (fst4 n)) 179)) (by repeat (first | with_reducible exact dr_refl | apply dr_keep | apply dr_drop))) ?_
            refine tc_reg ?_
            refine tl_v rfl (by first | exact o_addI rfl rfl (by omega) | exact o_add rfl rfl) ?_
            refine tl_v rfl (o_move (by conv => lhs; whnf)) ?_
            refine tl_nil ?_
            refine q_then_n ?_
            exact ⟨_, by omega, i + 1, s46, by omega, by rw [← hp1]; exact (fmt_o hi hs46).symm, by have := (bytesP_room (r := 64 * (4 - (i + 1))) (p := ((t.1 : Nat) : Int)) hp3 ht2 (by rw [ht1]; exact room_le hp2 (by omega))).1; rw [hs46] at this; exact this, by have := (bytesP_room (r := 0) (p := ((t.1 : Nat) : Int)) hp3 ht2 (by rw [ht1]; exact room_le hp2 (by omega))).2; rw [hs46] at this; exact this, by have := bytesP_len ((t.1 : Nat) : Int) t.2 s1; rw [hs46] at this; exact this.trans hp4, rfl, rfl, rfl, rfl, rfl, rfl, rfl, rfl⟩
        · obtain rfl : i = 4 := by simp at h; omega
          have hq : fmtF (fst4 n) s = (0, s1) := by rw [← hp1]; rfl
          refine tc_exit ?_
          refine q_then_e (q_then_e (q_block_x (q_then_n ?_)))
          refine tc_seq ?_
          refine tc_reg ?_
          refine tl_v rfl (o_loadN (vs := ints [(n : Int), ((128 : Nat) : Int), ((32768 : Nat) : Int), ((32896 : Nat) : Int), (((n - 32896) / 256 : Nat) : Int)]) a23 sz23 rfl (by repeat (first | with_reducible exact has_here | with_reducible exact has_pt | apply has_left)) (by show 5 ≤ 5; decide) rfl) ?_
          refine tl_u rfl (o_stUN (l' := ints [(n : Int), ((128 : Nat) : Int), ((32768 : Nat) : Int), ((32896 : Nat) : Int), (((n - 32896) / 256 : Nat) : Int)]) rfl (by repeat (first | with_reducible exact upd_here | with_reducible exact upd_pt | apply upd_left)) sz23 rfl rfl rfl (by show 5 ≤ 5; decide) rfl) ?_
          refine tl_v rfl (o_assign (by conv => lhs; whnf)) ?_
          refine tl_nil ?_
          refine q_then_n ?_
          refine tc_ret ?_
          first
          | (have hp : fmtF (fst4 n) s = (e46, s46) := by rw [← hp1]; exact fmt_e hi hs46 h
             have ha : fmA n s = ([0, 0, 0, 0, 0], e46) := by unfold fmA; rw [hp, if_pos h]
             rw [ha]; exact ⟨.tuple #[.agg (ints [0, 0, 0, 0, 0]).toArray, .int .i64 e46], C (Dev d s46), resA2 rfl (rv_cell a23 sz23 rfl (by repeat (first | with_reducible exact has_here | with_reducible exact has_pt | apply has_left)) (by show 5 ≤ 5; decide) rfl) (rv_tmp rfl), fun _ _ h => by rw [hC]; exact (Dr.sat (A' := R * Dev d s46) (by repeat (first | with_reducible exact dr_refl | apply dr_keep | apply dr_drop))) _ _ h, e46, s46, hp, rfl, rfl⟩)
          | (have ha : fmA n s = ([(n : Int), ((128 : Nat) : Int), ((32768 : Nat) : Int), ((32896 : Nat) : Int), (((n - 32896) / 256 : Nat) : Int)], 0) := by unfold fmA; rw [hq, if_neg (by simp)]
             rw [ha]; exact ⟨.tuple #[.agg (ints [(n : Int), ((128 : Nat) : Int), ((32768 : Nat) : Int), ((32896 : Nat) : Int), (((n - 32896) / 256 : Nat) : Int)]).toArray, .int .i64 0], C (Dev d s1), resA2 rfl (rv_cell a23 sz23 rfl (by repeat (first | with_reducible exact has_here | with_reducible exact has_pt | apply has_left)) (by show 5 ≤ 5; decide) rfl) (rv_tmp rfl), fun _ _ h => by rw [hC]; exact (Dr.sat (A' := R * Dev d s1) (by repeat (first | with_reducible exact dr_refl | apply dr_keep | apply dr_drop))) _ _ h, 0, s1, hq, rfl, rfl⟩)
end Go.Vl

set_option linter.unusedVariables false
set_option linter.unusedSimpArgs false
namespace Go.Vl
open Go Go.Proofs
theorem set_lt {xs : List Nat} {i v : Nat} (h : ∀ x ∈ xs, x < 256) (hv : v < 256) : ∀ x ∈ xs.set i v, x < 256 := fun x hx => by
  rcases List.mem_or_eq_of_mem_set hx with h1 | h1
  · exact h x h1
  · omega
theorem lineT_len (q0 q1 q2 q3 q4 : Int) : (lineT q0 q1 q2 q3 q4).1.length ≤ 64 ∧ ∀ x ∈ (lineT q0 q1 q2 q3 q4).1, x < 256 := by
  unfold lineT
  split
  · refine ⟨by rw [sbB_len rfl]; exact Nat.le_refl _, fun x hx => ?_⟩
    simp only [] at hx
    unfold sbB at hx
    rw [List.mem_append] at hx
    rcases hx with hx | hx
    · exact mbs_lt _ x hx
    · exact le_bytes 8 _ x hx
  · exact ⟨by simp, by simp⟩
theorem planT_zero {n : Int} {r : List Int} (h : planT n = (r, 0)) : 36992 ≤ n := by
  unfold planT at h
  split at h
  · rename_i hc; exact hc.1
  · simp at h
attribute [local irreducible] crk crL crc Sl pt ro mbs sbB planT Dev imgS lineT
theorem ImBytes_no {A : SP} {sz tn : Int} {fl hcp : Nat} {ha : Option Addr} {hd : List Nat} {rt : Bool} (hrh : Rs A ha (bys hd)) (hhb : ∀ x ∈ hd, x < 256) (hfl : fl < 256) (hht : -9223372036854775808 ≤ tn ∧ tn ≤ 9223372036854775807) (hs : sz < 0 ∨ 4194368 < sz) :
    Fn Try.prog 64 #[.agg ([.int .i64 sz, .int .u8 (fl : Nat), .slice ha hd.length hcp, .bool rt, .int .i64 tn] : List Value).toArray] (A) (fun r B => r = .slice none 0 0 ∧ A = B) := by
  refine fn_enterW (args := [.agg ([.int .i64 sz, .int .u8 (fl : Nat), .slice ha hd.length hcp, .bool rt, .int .i64 tn] : List Value).toArray]) Try.func64 rfl Try.ntmps64 (by simp) ?_
  refine tc_seq ?_
  refine tc_reg ?_
  refine tl_x rfl (o_box rfl rfl) ?_
  rintro _ _ ⟨b1, rfl, rfl⟩
  refine tl_v rfl (o_assign (by conv => lhs; whnf)) ?_
  refine tl_nil ?_
  refine q_then_n ?_
  refine tc_seq ?_
  refine tc_seq ?_
  refine tc_reg ?_
  refine tl_v rfl (o_fieldAddr (o := 0) Try.underlying121 rfl rfl sz3 rfl) ?_
  refine tl_v rfl (by first | exact o_load p3 rfl (by repeat (first | with_reducible exact has_here | with_reducible exact has_pt | apply has_left)) rfl | exact o_loadC p3 rfl (by assumption)) ?_
  refine tl_v rfl (o_lss rfl rfl) ?_
  refine tl_v rfl (o_move (by conv => lhs; whnf)) ?_
  refine tl_bool (d := 14) rfl (fun h => ?_) (fun h => ?_)
  · try simp only [decide_eq_true_eq, decide_eq_false_iff_not, Bool.not_eq_true', Bool.not_eq_false', Option.isNone_some, Option.isNone_none, Bool.not_true, Bool.not_false] at h
    refine tl_skip rfl ?_
    refine tl_skip rfl ?_
    refine tl_skip rfl ?_
    refine tl_v rfl (o_pick_t rfl (by conv => lhs; whnf)) ?_
    refine tl_nil ?_
    refine q_then_n ?_
    refine tc_cond_t rfl ?_
    refine tc_seq ?_
    refine tc_reg ?_
    refine tl_v rfl (o_assign (by conv => lhs; whnf)) ?_
    refine tl_nil ?_
    refine q_then_n ?_
    refine tc_ret ?_
    refine q_then_r ?_
    exact ⟨.slice none 0 0, A, res1 rfl rfl, Dr.sat (by repeat (first | with_reducible exact dr_refl | apply dr_keep | apply dr_drop)), rfl, rfl⟩
  · try simp only [decide_eq_true_eq, decide_eq_false_iff_not, Bool.not_eq_true', Bool.not_eq_false', Option.isNone_some, Option.isNone_none, Bool.not_true, Bool.not_false] at h
    refine tl_v rfl (o_fieldAddr (o := 0) Try.underlying121 rfl rfl sz3 rfl) ?_
    refine tl_v rfl (by first | exact o_load p3 rfl (by repeat (first | with_reducible exact has_here | with_reducible exact has_pt | apply has_left)) rfl | exact o_loadC p3 rfl (by assumption)) ?_
    refine tl_v rfl (o_gtr rfl rfl) ?_
    refine tl_v rfl (o_pick_f rfl (by conv => lhs; whnf)) ?_
    refine tl_nil ?_
    refine q_then_n ?_
    refine tc_cond rfl (fun h => ?_) (fun h => ?_)
    · try simp only [decide_eq_true_eq, decide_eq_false_iff_not, Bool.not_eq_true', Bool.not_eq_false', Option.isNone_some, Option.isNone_none, Bool.not_true, Bool.not_false] at h
      refine tc_seq ?_
      refine tc_reg ?_
      refine tl_v rfl (o_assign (by conv => lhs; whnf)) ?_
      refine tl_nil ?_
      refine q_then_n ?_
      refine tc_ret ?_
      refine q_then_r ?_
      exact ⟨.slice none 0 0, A, res1 rfl rfl, Dr.sat (by repeat (first | with_reducible exact dr_refl | apply dr_keep | apply dr_drop)), rfl, rfl⟩
    · exfalso; simp at h; omega
set_option maxRecDepth 20000 in
set_option maxHeartbeats 2000000 in
theorem ImBytes_ok {A : SP} {n : Nat} {tn : Int} {fl hcp : Nat} {ha : Option Addr} {hd : List Nat} {rt : Bool} (hrh : Rs A ha (bys hd)) (hhb : ∀ x ∈ hd, x < 256) (hfl : fl < 256) (hht : -9223372036854775808 ≤ tn ∧ tn ≤ 9223372036854775807) (hn : n ≤ 4194368) (hhl : hd.length ≤ 140737488351232) :
    Fn Try.prog 64 #[.agg ([.int .i64 (n : Int), .int .u8 (fl : Nat), .slice ha hd.length hcp, .bool rt, .int .i64 tn] : List Value).toArray] (A) (fun r B => ∃ a c xs, r = .slice a n c ∧ n ≤ c ∧ xs.length = n ∧ (∀ x ∈ xs, x < 256) ∧ B = A * Sl 1 (.slice a n c) n (bys xs)) := by
  refine fn_enterW (args := [.agg ([.int .i64 (n : Int), .int .u8 (fl : Nat), .slice ha hd.length hcp, .bool rt, .int .i64 tn] : List Value).toArray]) Try.func64 rfl Try.ntmps64 (by simp) ?_
  refine tc_seq ?_
  refine tc_reg ?_
  refine tl_x rfl (o_box rfl rfl) ?_
  rintro _ _ ⟨b1, rfl, rfl⟩
  refine tl_v rfl (o_assign (by conv => lhs; whnf)) ?_
  refine tl_nil ?_
  refine q_then_n ?_
  refine tc_seq ?_
  refine tc_seq ?_
  refine tc_reg ?_
  refine tl_v rfl (o_fieldAddr (o := 0) Try.underlying121 rfl rfl sz3 rfl) ?_
  refine tl_v rfl (by first | exact o_load p3 rfl (by repeat (first | with_reducible exact has_here | with_reducible exact has_pt | apply has_left)) rfl | exact o_loadC p3 rfl (by assumption)) ?_
  refine tl_v rfl (o_lss rfl rfl) ?_
  refine tl_v rfl (o_move (by conv => lhs; whnf)) ?_
  refine tl_bool (d := 14) rfl (fun h => ?_) (fun h => ?_)
  · exfalso; simp at h; omega
  · try simp only [decide_eq_true_eq, decide_eq_false_iff_not, Bool.not_eq_true', Bool.not_eq_false', Option.isNone_some, Option.isNone_none, Bool.not_true, Bool.not_false] at h
    refine tl_v rfl (o_fieldAddr (o := 0) Try.underlying121 rfl rfl sz3 rfl) ?_
    refine tl_v rfl (by first | exact o_load p3 rfl (by repeat (first | with_reducible exact has_here | with_reducible exact has_pt | apply has_left)) rfl | exact o_loadC p3 rfl (by assumption)) ?_
    refine tl_v rfl (o_gtr rfl rfl) ?_
    refine tl_v rfl (o_pick_f rfl (by conv => lhs; whnf)) ?_
    refine tl_nil ?_
    refine q_then_n ?_
    refine tc_cond rfl (fun h => ?_) (fun h => ?_)
    · exfalso; simp at h; omega
    · try simp only [decide_eq_true_eq, decide_eq_false_iff_not, Bool.not_eq_true', Bool.not_eq_false', Option.isNone_some, Option.isNone_none, Bool.not_true, Bool.not_false] at h
      refine tc_skip ?_
      refine q_then_n ?_
      refine tc_seq ?_
      refine tc_reg ?_
      refine tl_v rfl (o_fieldAddr (o := 0) Try.underlying121 rfl rfl sz3 rfl) ?_
      refine tl_v rfl (by first | exact o_load p3 rfl (by repeat (first | with_reducible exact has_here | with_reducible exact has_pt | apply has_left)) rfl | exact o_loadC p3 rfl (by assumption)) ?_
      refine tl_x rfl (o_makeSlice (len := n) (cap := n) Try.underlying28 sz5 by5 z5 rfl rfl rfl (by omega) (by omega) (by omega)) ?_
      rintro _ _ ⟨b21, rfl, rfl⟩
      refine tl_pre (fun _ _ h => sl_new (k := 1) (n := n) (cap := n) (xs := bys (List.replicate n 0)) h (by omega) (by simp) (by rw [Nat.mul_one, List.take_of_length_le (by simp)]; unfold bys; rw [List.map_replicate]; rfl)) ?_
      refine tl_v rfl (o_assign (by conv => lhs; whnf)) ?_
      refine tl_nil ?_
      refine q_then_n ?_
      refine tc_seq ?_
      refine tc_seq ?_
      refine tc_reg ?_
      refine tl_v rfl (o_assign (by conv => lhs; whnf)) ?_
      refine tl_nil ?_
      refine q_then_n ?_
      refine tc_block ?_
      refine tc_loop (fun kk ρ BB => ∃ (i : Nat) (xs : List Nat), (i ≤ n) ∧ (xs.length = n) ∧ (∀ x ∈ xs, x < 256) ∧ kk = n - i ∧ ρ 4 = .int .i64 (i : Nat) ∧ ρ 1 = .pointer (some ⟨b1, 0, none⟩) ∧ ρ 3 = .slice (some ⟨b21, 0, none⟩) n n ∧ BB = A * pt b1 (cl [.int .i64 (n : Int), .int .u8 (fl : Nat), .slice ha hd.length hcp, .bool rt, .int .i64 tn] 121) * Sl 1 (.slice (some ⟨b21, 0, none⟩) n n) n (bys xs)) (m := n - (0)) ?_ ?_
      · exact ⟨0, List.replicate n 0, Nat.zero_le _, by simp, fun x hx => by have := List.eq_of_mem_replicate hx; omega, rfl, rfl, rfl, rfl, rfl⟩
      · intro k ρ B hI
        obtain ⟨i, xs, hp0, hp1, hp2, hkk1, hE4, hE1, hE3, rfl⟩ := hI
        refine tc_env (d := 4) hE4 ?_
        refine tc_env (d := 1) hE1 ?_
        refine tc_env (d := 3) hE3 ?_
        clear hE4 hE1 hE3
        refine tc_seq ?_
        refine tc_seq ?_
        refine tc_reg ?_
        refine tl_v rfl (o_move (by conv => lhs; whnf)) ?_
        refine tl_v rfl (o_move (by conv => lhs; whnf)) ?_
        refine tl_v rfl (o_len Try.underlying28 rfl) ?_
        refine tl_v rfl (o_lss rfl rfl) ?_
        refine tl_nil ?_
        refine q_then_n ?_
        refine tc_cond rfl (fun h => ?_) (fun h => ?_)
        · have hi : i < n := by simpa using h
          refine tc_skip ?_
          refine q_then_n ?_
          refine tc_seq ?_
          refine tc_block ?_
          refine tc_reg ?_
          refine tl_v rfl (o_move (by conv => lhs; whnf)) ?_
          refine tl_v rfl (o_move (by conv => lhs; whnf)) ?_
          refine tl_v rfl (o_fieldAddr (o := 1) Try.underlying121 rfl rfl sz5 rfl) ?_
          refine tl_v rfl (by first | exact o_load p5 rfl (by repeat (first | with_reducible exact has_here | with_reducible exact has_pt | apply has_left)) rfl | exact o_loadC p5 rfl (by assumption)) ?_
          refine tl_v rfl (o_ixP1 Try.underlying28 sz5 rfl rfl (by first | omega | (simp only [bys_length, ints_length, wds_length, bos_length, List.length_append, List.length_take, List.length_drop, List.length_singleton]; omega)) (by repeat (first | exact nn_some | with_reducible exact nn_sl (by decide) | exact nn_rs (by assumption) (fun _ => by first | omega | (simp only [bys_length, ints_length, wds_length, bos_length, List.length_append, List.length_take, List.length_drop, List.length_singleton]; omega)) | apply Nn.left))) ?_
          refine tl_u rfl (o_stP (ys := bys (xs.set i fl)) sz5 rfl rfl rfl (by repeat (first | with_reducible exact ct_here | apply ct_left)) (by omega) (bys_set _ _ _)) ?_
          refine tl_nil ?_
          refine q_block_n (q_then_n ?_)
          refine tc_reg ?_
          refine tl_v rfl (o_move (by conv => lhs; whnf)) ?_
          refine tl_v rfl (by first | exact o_addI rfl rfl (by omega) | exact o_add rfl rfl) ?_
          refine tl_v rfl (o_assign (by conv => lhs; whnf)) ?_
          refine tl_nil ?_
          refine q_then_n ?_
          exact ⟨_, by omega, i + 1, xs.set i fl, by omega, by rw [List.length_set]; exact hp1, set_lt hp2 hfl, rfl, rfl, rfl, rfl, rfl⟩
        · try simp only [decide_eq_true_eq, decide_eq_false_iff_not, Bool.not_eq_true', Bool.not_eq_false', Option.isNone_some, Option.isNone_none, Bool.not_true, Bool.not_false] at h
          refine tc_exit ?_
          refine q_then_e (q_then_e (q_block_x (q_then_n ?_)))
          refine tc_seq ?_
          refine tc_seq ?_
          refine tc_reg ?_
          refine tl_v rfl (o_assign (by conv => lhs; whnf)) ?_
          refine tl_nil ?_
          refine q_then_n ?_
          refine tc_block ?_
          refine tc_loop (fun kk ρ BB => ∃ (i : Nat) (xs : List Nat), (i ≤ n) ∧ (xs.length = n) ∧ (∀ x ∈ xs, x < 256) ∧ kk = n - i ∧ ρ 5 = .int .i64 (i : Nat) ∧ ρ 1 = .pointer (some ⟨b1, 0, none⟩) ∧ ρ 3 = .slice (some ⟨b21, 0, none⟩) n n ∧ BB = A * pt b1 (cl [.int .i64 (n : Int), .int .u8 (fl : Nat), .slice ha hd.length hcp, .bool rt, .int .i64 tn] 121) * Sl 1 (.slice (some ⟨b21, 0, none⟩) n n) n (bys xs)) (m := n - (0)) ?_ ?_
          · exact ⟨0, xs, Nat.zero_le _, hp1, hp2, rfl, rfl, rfl, rfl, rfl⟩
          · intro k ρ B hI
            obtain ⟨i, xs, hp0, hp1, hp2, hkk2, hE5, hE1, hE3, rfl⟩ := hI
            refine tc_env (d := 5) hE5 ?_
            refine tc_env (d := 1) hE1 ?_
            refine tc_env (d := 3) hE3 ?_
            clear hE5 hE1 hE3
            refine tc_seq ?_
            refine tc_seq ?_
            refine tc_reg ?_
            refine tl_v rfl (o_move (by conv => lhs; whnf)) ?_
            refine tl_v rfl (o_move (by conv => lhs; whnf)) ?_
            refine tl_v rfl (o_len Try.underlying28 rfl) ?_
            refine tl_v rfl (o_lss rfl rfl) ?_
            refine tl_v rfl (o_move (by conv => lhs; whnf)) ?_
            refine tl_bool (d := 37) rfl (fun h => ?_) (fun h => ?_)
            · have hin : i < n := by simpa using h
              refine tl_v rfl (o_move (by conv => lhs; whnf)) ?_
              refine tl_v rfl (o_fieldAddr (o := 2) Try.underlying121 rfl rfl sz28 rfl) ?_
              refine tl_v rfl (by first | exact o_load p28 rfl (by repeat (first | with_reducible exact has_here | with_reducible exact has_pt | apply has_left)) rfl | exact o_loadC p28 rfl (by assumption)) ?_
              refine tl_v rfl (o_len Try.underlying28 rfl) ?_
              refine tl_v rfl (o_lss rfl rfl) ?_
              refine tl_v rfl (o_pick_t rfl (by conv => lhs; whnf)) ?_
              refine tl_nil ?_
              refine q_then_n ?_
              refine tc_cond rfl (fun h => ?_) (fun h => ?_)
              · have hi : i < hd.length := by simp at h; omega
                refine tc_skip ?_
                refine q_then_n ?_
                refine tc_seq ?_
                refine tc_block ?_
                refine tc_reg ?_
                refine tl_v rfl (o_move (by conv => lhs; whnf)) ?_
                refine tl_v rfl (o_move (by conv => lhs; whnf)) ?_
                refine tl_v rfl (o_fieldAddr (o := 2) Try.underlying121 rfl rfl sz28 rfl) ?_
                refine tl_v rfl (by first | exact o_load p28 rfl (by repeat (first | with_reducible exact has_here | with_reducible exact has_pt | apply has_left)) rfl | exact o_loadC p28 rfl (by assumption)) ?_
                refine tl_v rfl (o_move (by conv => lhs; whnf)) ?_
                refine tl_v rfl (o_ixP1 Try.underlying28 sz5 rfl rfl (by omega) (nn_rs (by repeat (first | exact hrh | apply Rs.left)) (fun _ => by rw [bys_length]; omega))) ?_
                refine tl_v rfl (o_ldP p5 rfl (by repeat (first | exact hrh | apply Rs.left)) (bys_at hi)) ?_
                refine tl_v rfl (o_ixP1 Try.underlying28 sz5 rfl rfl (by first | omega | (simp only [bys_length, ints_length, wds_length, bos_length, List.length_append, List.length_take, List.length_drop, List.length_singleton]; omega)) (by repeat (first | exact nn_some | with_reducible exact nn_sl (by decide) | exact nn_rs (by assumption) (fun _ => by first | omega | (simp only [bys_length, ints_length, wds_length, bos_length, List.length_append, List.length_take, List.length_drop, List.length_singleton]; omega)) | apply Nn.left))) ?_
                refine tl_u rfl (o_stP (ys := bys (xs.set i hd[i])) sz5 rfl rfl rfl (by repeat (first | with_reducible exact ct_here | apply ct_left)) (by omega) (bys_set _ _ _)) ?_
                refine tl_nil ?_
                refine q_block_n (q_then_n ?_)
                refine tc_reg ?_
                refine tl_v rfl (o_move (by conv => lhs; whnf)) ?_
                refine tl_v rfl (by first | exact o_addI rfl rfl (by omega) | exact o_add rfl rfl) ?_
                refine tl_v rfl (o_assign (by conv => lhs; whnf)) ?_
                refine tl_nil ?_
                refine q_then_n ?_
                exact ⟨_, by omega, i + 1, xs.set i hd[i], by omega, by rw [List.length_set]; exact hp1, set_lt hp2 (hhb _ (List.getElem_mem hi)), rfl, rfl, rfl, rfl, rfl⟩
              · try simp only [decide_eq_true_eq, decide_eq_false_iff_not, Bool.not_eq_true', Bool.not_eq_false', Option.isNone_some, Option.isNone_none, Bool.not_true, Bool.not_false] at h
                refine tc_exit ?_
                refine q_then_e (q_then_e (q_block_x (q_then_n ?_)))
                refine tc_seq ?_
                obtain ⟨q0, q1, q2, q3, q4, pe, hpl, hpl4, hpl5⟩ := planT_five (n : Int)
                refine tc_reg ?_
                refine tl_v rfl (o_fieldAddr (o := 0) Try.underlying121 rfl rfl sz3 rfl) ?_
                refine tl_v rfl (by first | exact o_load p3 rfl (by repeat (first | with_reducible exact has_here | with_reducible exact has_pt | apply has_left)) rfl | exact o_loadC p3 rfl (by assumption)) ?_
                refine tl_c rfl (o_call bd19 rfl (PlanR_q hpl)) ?_
                rintro _ _ ⟨rfl, rfl⟩
                refine tl_v rfl (o_move (by conv => lhs; whnf)) ?_
                refine tl_v rfl (o_extract rfl rfl) ?_
                refine tl_v rfl (o_extract rfl rfl) ?_
                refine tl_x rfl (o_alloc z23 rfl) ?_
                rintro _ _ ⟨b6, rfl, rfl⟩
                refine tl_u rfl (o_stUN (l' := ints [q0, q1, q2, q3, q4]) rfl (by repeat (first | with_reducible exact upd_here | with_reducible exact upd_pt | apply upd_left)) sz23 rfl rfl rfl (by show 5 ≤ 5; decide) rfl) ?_
                refine tl_v rfl (o_assign (by conv => lhs; whnf)) ?_
                refine tl_nil ?_
                refine q_then_n ?_
                refine tc_seq ?_
                refine tc_seq ?_
                refine tc_reg ?_
                refine tl_v rfl (o_fieldAddr (o := 3) Try.underlying121 rfl rfl sz4 rfl) ?_
                refine tl_v rfl (by first | exact o_load p4 rfl (by repeat (first | with_reducible exact has_here | with_reducible exact has_pt | apply has_left)) rfl | exact o_loadC p4 rfl (by assumption)) ?_
                refine tl_v rfl (o_move (by conv => lhs; whnf)) ?_
                refine tl_bool (d := 62) rfl (fun h => ?_) (fun h => ?_)
                · try simp only [decide_eq_true_eq, decide_eq_false_iff_not, Bool.not_eq_true', Bool.not_eq_false', Option.isNone_some, Option.isNone_none, Bool.not_true, Bool.not_false] at h
                  refine tl_v rfl (o_move (by conv => lhs; whnf)) ?_
                  refine tl_v rfl (o_eqi rfl rfl) ?_
                  refine tl_v rfl (o_pick_t rfl (by conv => lhs; whnf)) ?_
                  refine tl_nil ?_
                  refine q_then_n ?_
                  refine tc_cond rfl (fun h => ?_) (fun h => ?_)
                  · have hpe : pe = 0 := by simp at h; omega
                    subst hpe
                    have hn64 : 64 ≤ n := by have := planT_zero hpl; omega
                    obtain ⟨hL1, hL2⟩ := lineT_len q0 q1 q2 q3 q4
                    refine tc_seq ?_
                    refine tc_reg ?_
                    refine tl_v rfl (o_loadN (vs := ints [q0, q1, q2, q3, q4]) a23 sz23 rfl (by repeat (first | with_reducible exact has_here | with_reducible exact has_pt | apply has_left)) (by show 5 ≤ 5; decide) rfl) ?_
                    refine tl_c rfl (o_call bd21 rfl (LineR_u (q0 := q0) (q1 := q1) (q2 := q2) (q3 := q3) (q4 := q4))) ?_
                    rintro _ _ ⟨a68, c68, rfl, hc68, rfl⟩
                    obtain ⟨L, hL⟩ : ∃ L, L = (lineT q0 q1 q2 q3 q4).1 := ⟨_, rfl⟩
                    rw [← hL] at hL1 hL2 hc68 ⊢
                    refine tl_v rfl (o_move (by conv => lhs; whnf)) ?_
                    refine tl_v rfl (o_extract rfl rfl) ?_
                    refine tl_v rfl (o_extract rfl rfl) ?_
                    refine tl_v rfl (o_assign (by conv => lhs; whnf)) ?_
                    refine tl_v rfl (o_assign (by conv => lhs; whnf)) ?_
                    refine tl_nil ?_
                    refine q_then_n ?_
                    refine tc_seq ?_
                    refine tc_seq ?_
                    refine tc_reg ?_
                    refine tl_v rfl (o_assign (by conv => lhs; whnf)) ?_
                    refine tl_nil ?_
                    refine q_then_n ?_
                    refine tc_block ?_
                    refine tc_loop (fun kk ρ BB => ∃ (i : Nat) (xs : List Nat), (i ≤ L.length) ∧ (xs.length = n) ∧ (∀ x ∈ xs, x < 256) ∧ kk = L.length - i ∧ ρ 10 = .int .i64 (i : Nat) ∧ ρ 1 = .pointer (some ⟨b1, 0, none⟩) ∧ ρ 3 = .slice (some ⟨b21, 0, none⟩) n n ∧ ρ 8 = .slice a68 L.length c68 ∧ BB = A * pt b1 (cl [.int .i64 (n : Int), .int .u8 (fl : Nat), .slice ha hd.length hcp, .bool rt, .int .i64 tn] 121) * Sl 1 (.slice (some ⟨b21, 0, none⟩) n n) n (bys xs) * pt b6 (cl (ints [q0, q1, q2, q3, q4]) 23) * Sl 1 (.slice a68 L.length c68) L.length (bys L)) (m := L.length - (0)) ?_ ?_
                    · exact ⟨0, xs, Nat.zero_le _, hp1, hp2, rfl, rfl, rfl, rfl, rfl, rfl⟩
                    · intro k ρ B hI
                      obtain ⟨i, xs, hp0, hp1, hp2, hkk3, hE10, hE1, hE3, hE8, rfl⟩ := hI
                      refine tc_env (d := 10) hE10 ?_
                      refine tc_env (d := 1) hE1 ?_
                      refine tc_env (d := 3) hE3 ?_
                      refine tc_env (d := 8) hE8 ?_
                      clear hE10 hE1 hE3 hE8
                      refine tc_seq ?_
                      refine tc_seq ?_
                      refine tc_reg ?_
                      refine tl_v rfl (o_move (by conv => lhs; whnf)) ?_
                      refine tl_v rfl (o_move (by conv => lhs; whnf)) ?_
                      refine tl_v rfl (o_len Try.underlying28 rfl) ?_
                      refine tl_v rfl (o_lss rfl rfl) ?_
                      refine tl_nil ?_
                      refine q_then_n ?_
                      refine tc_cond rfl (fun h => ?_) (fun h => ?_)
                      · have hi : i < L.length := by simpa using h
                        refine tc_skip ?_
                        refine q_then_n ?_
                        refine tc_seq ?_
                        refine tc_block ?_
                        refine tc_reg ?_
                        refine tl_v rfl (o_move (by conv => lhs; whnf)) ?_
                        refine tl_v rfl (o_move (by conv => lhs; whnf)) ?_
                        refine tl_v rfl (o_move (by conv => lhs; whnf)) ?_
                        refine tl_v rfl (o_move (by conv => lhs; whnf)) ?_
                        refine tl_v rfl (o_ixP1 Try.underlying28 sz5 rfl rfl (by omega) (nn_rs (by repeat (first | with_reducible exact rs_sl | apply Rs.left)) (fun _ => by rw [bys_length]; omega))) ?_
                        refine tl_v rfl (o_ldP p5 rfl (by repeat (first | with_reducible exact rs_sl | apply Rs.left)) (bys_at hi)) ?_
                        refine tl_v rfl (o_ixP1 Try.underlying28 sz5 rfl rfl (by first | omega | (simp only [bys_length, ints_length, wds_length, bos_length, List.length_append, List.length_take, List.length_drop, List.length_singleton]; omega)) (by repeat (first | exact nn_some | with_reducible exact nn_sl (by decide) | exact nn_rs (by assumption) (fun _ => by first | omega | (simp only [bys_length, ints_length, wds_length, bos_length, List.length_append, List.length_take, List.length_drop, List.length_singleton]; omega)) | apply Nn.left))) ?_
                        refine tl_u rfl (o_stP (ys := bys (xs.set i L[i])) sz5 rfl rfl rfl (by repeat (first | with_reducible exact ct_here | apply ct_left)) (by omega) (bys_set _ _ _)) ?_
                        refine tl_nil ?_
                        refine q_block_n (q_then_n ?_)
                        refine tc_reg ?_
                        refine tl_v rfl (o_move (by conv => lhs; whnf)) ?_
                        refine tl_v rfl (by first | exact o_addI rfl rfl (by omega) | exact o_add rfl rfl) ?_
                        refine tl_v rfl (o_assign (by conv => lhs; whnf)) ?_
                        refine tl_nil ?_
                        refine q_then_n ?_
                        exact ⟨_, by omega, i + 1, xs.set i L[i], by omega, by rw [List.length_set]; exact hp1, set_lt hp2 (hL2 _ (List.getElem_mem hi)), rfl, rfl, rfl, rfl, rfl, rfl⟩
                      · try simp only [decide_eq_true_eq, decide_eq_false_iff_not, Bool.not_eq_true', Bool.not_eq_false', Option.isNone_some, Option.isNone_none, Bool.not_true, Bool.not_false] at h
                        refine tc_exit ?_
                        refine q_then_e (q_then_e (q_block_x (q_then_n ?_)))
                        refine tc_seq ?_
                        refine tc_reg ?_
                        refine tl_v rfl (o_fieldAddr (o := 4) Try.underlying121 rfl rfl sz3 rfl) ?_
                        refine tl_v rfl (by first | exact o_load p3 rfl (by repeat (first | with_reducible exact has_here | with_reducible exact has_pt | apply has_left)) rfl | exact o_loadC p3 rfl (by assumption)) ?_
                        refine tl_v rfl (o_gtr rfl rfl) ?_
                        refine tl_v rfl (o_move (by conv => lhs; whnf)) ?_
                        refine tl_bool (d := 87) rfl (fun h => ?_) (fun h => ?_)
                        · have ht0 : 0 < tn := by simpa using h
                          refine tl_v rfl (o_fieldAddr (o := 4) Try.underlying121 rfl rfl sz3 rfl) ?_
                          refine tl_v rfl (by first | exact o_load p3 rfl (by repeat (first | with_reducible exact has_here | with_reducible exact has_pt | apply has_left)) rfl | exact o_loadC p3 rfl (by assumption)) ?_
                          refine tl_v rfl (o_leq rfl rfl) ?_
                          refine tl_v rfl (o_pick_t rfl (by conv => lhs; whnf)) ?_
                          refine tl_nil ?_
                          refine q_then_n ?_
                          refine tc_cond rfl (fun h => ?_) (fun h => ?_)
                          · obtain ⟨k, hk, hk5⟩ : ∃ k : Nat, tn - 1 = (k : Int) ∧ k < 512 := ⟨(tn - 1).toNat, by omega, by simp at h; omega⟩
                            have hj8 : k / 8 < xs.length := by omega
                            have hx8 := hp2 _ (List.getElem_mem hj8)
                            have h2p : 2 ^ (k % 8) < 256 := by
                              have : 2 ^ (k % 8) ≤ 2 ^ 7 := Nat.pow_le_pow_right (by decide) (by omega)
                              omega
                            have hx9 : xs[k / 8] ^^^ 2 ^ (k % 8) < 256 := Nat.xor_lt_two_pow (n := 8) (by omega) (by omega)
                            refine tc_regh (S := A * pt b1 (cl [.int .i64 (n : Int), .int .u8 (fl : Nat), .slice ha hd.length hcp, .bool rt, .int .i64 tn] 121)) mo (by repeat (first | with_reducible exact dr_refl | apply dr_keep | apply dr_drop)) ?_
                            show TH _ _ _ _ _ 20 #[false, false, false, false, false, false, false, false, false, false, false, false, false, false, false, false, false, false, false, false] _ _
                            refine th_take (i := 0) (listed' := #[true, false, false, false, false, false, false, false, false, false, false, false, false, false, false, false, false, false, false, false]) rfl (by kernel_rfl) (by kernel_rfl) (by kernel_rfl) rfl rfl (o_move (by conv => lhs; whnf)) ?_
                            refine th_take (i := 1) (listed' := #[true, true, false, false, false, false, false, false, false, false, false, false, false, false, false, false, false, false, false, false]) rfl (by kernel_rfl) (by kernel_rfl) (by kernel_rfl) rfl rfl (o_fieldAddr (o := 4) Try.underlying121 rfl rfl sz3 rfl) ?_
                            refine th_take (i := 2) (listed' := #[true, true, true, false, false, false, false, false, false, false, false, false, false, false, false, false, false, false, false, false]) rfl (by kernel_rfl) (by kernel_rfl) (by kernel_rfl) rfl rfl (by first | exact o_load p3 rfl (by repeat (first | with_reducible exact has_here | with_reducible exact has_pt | apply has_left)) rfl | exact o_loadC p3 rfl (by assumption)) ?_
                            refine th_take (i := 3) (listed' := #[true, true, true, true, false, false, false, false, false, false, false, false, false, false, false, false, false, false, false, false]) rfl (by kernel_rfl) (by kernel_rfl) (by kernel_rfl) rfl rfl (by first | exact o_subI rfl rfl (by omega) | exact o_sub rfl rfl) ?_
                            refine th_env (d := 95) (v := .int .i64 (k : Nat)) (congrArg (Value.int .i64) hk) ?_
                            refine th_take (i := 4) (listed' := #[true, true, true, true, true, false, false, false, false, false, false, false, false, false, false, false, false, false, false, false]) rfl (by kernel_rfl) (by kernel_rfl) (by kernel_rfl) rfl rfl (o_quoN (b := 8) rfl rfl (by omega)) ?_
                            refine th_take (i := 5) (listed' := #[true, true, true, true, true, true, false, false, false, false, false, false, false, false, false, false, false, false, false, false]) rfl (by kernel_rfl) (by kernel_rfl) (by kernel_rfl) rfl rfl (o_move (by conv => lhs; whnf)) ?_
                            refine th_take (i := 6) (listed' := #[true, true, true, true, true, true, true, false, false, false, false, false, false, false, false, false, false, false, false, false]) rfl (by kernel_rfl) (by kernel_rfl) (by kernel_rfl) rfl rfl (o_fieldAddr (o := 4) Try.underlying121 rfl rfl sz3 rfl) ?_
                            refine th_take (i := 7) (listed' := #[true, true, true, true, true, true, true, true, false, false, false, false, false, false, false, false, false, false, false, false]) rfl (by kernel_rfl) (by kernel_rfl) (by kernel_rfl) rfl rfl (by first | exact o_load p3 rfl (by repeat (first | with_reducible exact has_here | with_reducible exact has_pt | apply has_left)) rfl | exact o_loadC p3 rfl (by assumption)) ?_
                            refine th_take (i := 8) (listed' := #[true, true, true, true, true, true, true, true, true, false, false, false, false, false, false, false, false, false, false, false]) rfl (by kernel_rfl) (by kernel_rfl) (by kernel_rfl) rfl rfl (by first | exact o_subI rfl rfl (by omega) | exact o_sub rfl rfl) ?_
                            refine th_env (d := 100) (v := .int .i64 (k : Nat)) (congrArg (Value.int .i64) hk) ?_
                            refine th_take (i := 9) (listed' := #[true, true, true, true, true, true, true, true, true, true, false, false, false, false, false, false, false, false, false, false]) rfl (by kernel_rfl) (by kernel_rfl) (by kernel_rfl) rfl rfl (o_quoN (b := 8) rfl rfl (by omega)) ?_
                            refine th_take (i := 10) (listed' := #[true, true, true, true, true, true, true, true, true, true, true, false, false, false, false, false, false, false, false, false]) rfl (by kernel_rfl) (by kernel_rfl) (by kernel_rfl) rfl rfl (o_ixP1 Try.underlying28 sz5 rfl rfl (by first | omega | (simp only [bys_length, ints_length, wds_length, bos_length, List.length_append, List.length_take, List.length_drop, List.length_singleton]; omega)) (by repeat (first | exact nn_some | with_reducible exact nn_sl (by decide) | exact nn_rs (by assumption) (fun _ => by first | omega | (simp only [bys_length, ints_length, wds_length, bos_length, List.length_append, List.length_take, List.length_drop, List.length_singleton]; omega)) | apply Nn.left))) ?_
                            refine th_take (i := 12) (listed' := #[true, true, true, true, true, true, true, true, true, true, true, false, true, false, false, false, false, false, false, false]) rfl (by kernel_rfl) (by kernel_rfl) (by kernel_rfl) rfl rfl (o_fieldAddr (o := 4) Try.underlying121 rfl rfl sz3 rfl) ?_
                            refine th_take (i := 13) (listed' := #[true, true, true, true, true, true, true, true, true, true, true, false, true, true, false, false, false, false, false, false]) rfl (by kernel_rfl) (by kernel_rfl) (by kernel_rfl) rfl rfl (by first | exact o_load p3 rfl (by repeat (first | with_reducible exact has_here | with_reducible exact has_pt | apply has_left)) rfl | exact o_loadC p3 rfl (by assumption)) ?_
                            refine th_take (i := 14) (listed' := #[true, true, true, true, true, true, true, true, true, true, true, false, true, true, true, false, false, false, false, false]) rfl (by kernel_rfl) (by kernel_rfl) (by kernel_rfl) rfl rfl (by first | exact o_subI rfl rfl (by omega) | exact o_sub rfl rfl) ?_
                            refine th_env (d := 106) (v := .int .i64 (k : Nat)) (congrArg (Value.int .i64) hk) ?_
                            refine th_take (i := 15) (listed' := #[true, true, true, true, true, true, true, true, true, true, true, false, true, true, true, true, false, false, false, false]) rfl (by kernel_rfl) (by kernel_rfl) (by kernel_rfl) rfl rfl (o_remN (b := 8) rfl rfl (by omega)) ?_
                            refine th_take (i := 16) (listed' := #[true, true, true, true, true, true, true, true, true, true, true, false, true, true, true, true, true, false, false, false]) rfl (by kernel_rfl) (by kernel_rfl) (by kernel_rfl) rfl rfl (o_shlm (a := 1) (b := k % 8) rfl rfl rfl rfl (by show _ ≤ 8; omega)) ?_
                            refine th_env (d := 108) (v := .int .u8 ((2 ^ (k % 8) : Nat) : Int)) (congrArg (fun z : Nat => Value.int .u8 (z : Int)) (show 1 * 2 ^ (k % 8) % 256 = 2 ^ (k % 8) by omega)) ?_
                            refine th_one (i := 11) (by kernel_rfl) ?_
                            refine oh_v (i := 11) (listed' := #[true, true, true, true, true, true, true, true, true, true, true, true, true, true, true, true, true, false, false, false]) rfl rfl rfl (o_ldP p5 rfl (by repeat (first | with_reducible exact rs_sl | apply Rs.left)) (bys_at hj8)) ?_
                            refine th_take (i := 17) (listed' := #[true, true, true, true, true, true, true, true, true, true, true, true, true, true, true, true, true, true, false, false]) rfl (by kernel_rfl) (by kernel_rfl) (by kernel_rfl) rfl rfl (o_xorN rfl rfl rfl (by show _ < 256; exact hx8) (by show _ < 256; exact h2p)) ?_
                            refine th_take (i := 18) (listed' := #[true, true, true, true, true, true, true, true, true, true, true, true, true, true, true, true, true, true, true, false]) rfl (by kernel_rfl) (by kernel_rfl) (by kernel_rfl) rfl rfl (o_ixP1 Try.underlying28 sz5 rfl rfl (by first | omega | (simp only [bys_length, ints_length, wds_length, bos_length, List.length_append, List.length_take, List.length_drop, List.length_singleton]; omega)) (by repeat (first | exact nn_some | with_reducible exact nn_sl (by decide) | exact nn_rs (by assumption) (fun _ => by first | omega | (simp only [bys_length, ints_length, wds_length, bos_length, List.length_append, List.length_take, List.length_drop, List.length_singleton]; omega)) | apply Nn.left))) ?_
                            refine th_one (i := 19) (by kernel_rfl) ?_
                            refine oh_u (i := 19) (listed' := #[true, true, true, true, true, true, true, true, true, true, true, true, true, true, true, true, true, true, true, true]) rfl rfl rfl (o_stP (ys := bys (xs.set (k / 8) (xs[k / 8] ^^^ 2 ^ (k % 8)))) sz5 rfl rfl rfl (by repeat (first | with_reducible exact ct_here | apply ct_left)) (by omega) (bys_set _ _ _)) (by repeat (first | with_reducible exact dr_refl | apply dr_keep | apply dr_drop)) ?_
                            refine th_done (by kernel_rfl) ?_
                            refine q_then_n ?_
                            refine tc_seq ?_
                            refine tc_reg ?_
                            refine tl_v rfl (o_move (by conv => lhs; whnf)) ?_
                            refine tl_v rfl (o_assign (by conv => lhs; whnf)) ?_
                            refine tl_nil ?_
                            refine q_then_n ?_
                            refine tc_ret ?_
                            first
                            | exact ⟨.slice (some ⟨b21, 0, none⟩) n n, A * Sl 1 (.slice (some ⟨b21, 0, none⟩) n n) n (bys (xs.set (k / 8) (xs[k / 8] ^^^ 2 ^ (k % 8)))), res1 rfl rfl, Dr.sat (by repeat (first | with_reducible exact dr_refl | apply dr_keep | apply dr_drop)), _, _, _, rfl, Nat.le_refl _, by rw [List.length_set]; exact hp1, set_lt hp2 hx9, rfl⟩
                            | exact ⟨.slice (some ⟨b21, 0, none⟩) n n, A * Sl 1 (.slice (some ⟨b21, 0, none⟩) n n) n (bys xs), res1 rfl rfl, Dr.sat (by repeat (first | with_reducible exact dr_refl | apply dr_keep | apply dr_drop)), _, _, _, rfl, Nat.le_refl _, hp1, hp2, rfl⟩
                          · try simp only [decide_eq_true_eq, decide_eq_false_iff_not, Bool.not_eq_true', Bool.not_eq_false', Option.isNone_some, Option.isNone_none, Bool.not_true, Bool.not_false] at h
                            refine tc_skip ?_
                            refine q_then_n ?_
                            refine tc_seq ?_
                            refine tc_reg ?_
                            refine tl_v rfl (o_move (by conv => lhs; whnf)) ?_
                            refine tl_v rfl (o_assign (by conv => lhs; whnf)) ?_
                            refine tl_nil ?_
                            refine q_then_n ?_
                            refine tc_ret ?_
                            first
                            | exact ⟨.slice (some ⟨b21, 0, none⟩) n n, A * Sl 1 (.slice (some ⟨b21, 0, none⟩) n n) n (bys (xs.set (k / 8) (xs[k / 8] ^^^ 2 ^ (k % 8)))), res1 rfl rfl, Dr.sat (by repeat (first | with_reducible exact dr_refl | apply dr_keep | apply dr_drop)), _, _, _, rfl, Nat.le_refl _, by rw [List.length_set]; exact hp1, set_lt hp2 hx9, rfl⟩
                            | exact ⟨.slice (some ⟨b21, 0, none⟩) n n, A * Sl 1 (.slice (some ⟨b21, 0, none⟩) n n) n (bys xs), res1 rfl rfl, Dr.sat (by repeat (first | with_reducible exact dr_refl | apply dr_keep | apply dr_drop)), _, _, _, rfl, Nat.le_refl _, hp1, hp2, rfl⟩
                        · try simp only [decide_eq_true_eq, decide_eq_false_iff_not, Bool.not_eq_true', Bool.not_eq_false', Option.isNone_some, Option.isNone_none, Bool.not_true, Bool.not_false] at h
                          refine tl_skip rfl ?_
                          refine tl_skip rfl ?_
                          refine tl_skip rfl ?_
                          refine tl_v rfl (o_pick_f rfl (by conv => lhs; whnf)) ?_
                          refine tl_nil ?_
                          refine q_then_n ?_
                          refine tc_cond_f rfl ?_
                          refine tc_skip ?_
                          refine q_then_n ?_
                          refine tc_seq ?_
                          refine tc_reg ?_
                          refine tl_v rfl (o_move (by conv => lhs; whnf)) ?_
                          refine tl_v rfl (o_assign (by conv => lhs; whnf)) ?_
                          refine tl_nil ?_
                          refine q_then_n ?_
                          refine tc_ret ?_
                          first
                          | exact ⟨.slice (some ⟨b21, 0, none⟩) n n, A * Sl 1 (.slice (some ⟨b21, 0, none⟩) n n) n (bys (xs.set (k / 8) (xs[k / 8] ^^^ 2 ^ (k % 8)))), res1 rfl rfl, Dr.sat (by repeat (first | with_reducible exact dr_refl | apply dr_keep | apply dr_drop)), _, _, _, rfl, Nat.le_refl _, by rw [List.length_set]; exact hp1, set_lt hp2 hx9, rfl⟩
                          | exact ⟨.slice (some ⟨b21, 0, none⟩) n n, A * Sl 1 (.slice (some ⟨b21, 0, none⟩) n n) n (bys xs), res1 rfl rfl, Dr.sat (by repeat (first | with_reducible exact dr_refl | apply dr_keep | apply dr_drop)), _, _, _, rfl, Nat.le_refl _, hp1, hp2, rfl⟩
                  · try simp only [decide_eq_true_eq, decide_eq_false_iff_not, Bool.not_eq_true', Bool.not_eq_false', Option.isNone_some, Option.isNone_none, Bool.not_true, Bool.not_false] at h
                    refine tc_skip ?_
                    refine q_then_n ?_
                    refine tc_seq ?_
                    refine tc_reg ?_
                    refine tl_v rfl (o_move (by conv => lhs; whnf)) ?_
                    refine tl_v rfl (o_assign (by conv => lhs; whnf)) ?_
                    refine tl_nil ?_
                    refine q_then_n ?_
                    refine tc_ret ?_
                    first
                    | exact ⟨.slice (some ⟨b21, 0, none⟩) n n, A * Sl 1 (.slice (some ⟨b21, 0, none⟩) n n) n (bys (xs.set (k / 8) (xs[k / 8] ^^^ 2 ^ (k % 8)))), res1 rfl rfl, Dr.sat (by repeat (first | with_reducible exact dr_refl | apply dr_keep | apply dr_drop)), _, _, _, rfl, Nat.le_refl _, by rw [List.length_set]; exact hp1, set_lt hp2 hx9, rfl⟩
                    | exact ⟨.slice (some ⟨b21, 0, none⟩) n n, A * Sl 1 (.slice (some ⟨b21, 0, none⟩) n n) n (bys xs), res1 rfl rfl, Dr.sat (by repeat (first | with_reducible exact dr_refl | apply dr_keep | apply dr_drop)), _, _, _, rfl, Nat.le_refl _, hp1, hp2, rfl⟩
                · try simp only [decide_eq_true_eq, decide_eq_false_iff_not, Bool.not_eq_true', Bool.not_eq_false', Option.isNone_some, Option.isNone_none, Bool.not_true, Bool.not_false] at h
                  refine tl_skip rfl ?_
                  refine tl_skip rfl ?_
                  refine tl_v rfl (o_pick_f rfl (by conv => lhs; whnf)) ?_
                  refine tl_nil ?_
                  refine q_then_n ?_
                  refine tc_cond_f rfl ?_
                  refine tc_skip ?_
                  refine q_then_n ?_
                  refine tc_seq ?_
                  refine tc_reg ?_
                  refine tl_v rfl (o_move (by conv => lhs; whnf)) ?_
                  refine tl_v rfl (o_assign (by conv => lhs; whnf)) ?_
                  refine tl_nil ?_
                  refine q_then_n ?_
                  refine tc_ret ?_
                  first
                  | exact ⟨.slice (some ⟨b21, 0, none⟩) n n, A * Sl 1 (.slice (some ⟨b21, 0, none⟩) n n) n (bys (xs.set (k / 8) (xs[k / 8] ^^^ 2 ^ (k % 8)))), res1 rfl rfl, Dr.sat (by repeat (first | with_reducible exact dr_refl | apply dr_keep | apply dr_drop)), _, _, _, rfl, Nat.le_refl _, by rw [List.length_set]; exact hp1, set_lt hp2 hx9, rfl⟩
                  | exact ⟨.slice (some ⟨b21, 0, none⟩) n n, A * Sl 1 (.slice (some ⟨b21, 0, none⟩) n n) n (bys xs), res1 rfl rfl, Dr.sat (by repeat (first | with_reducible exact dr_refl | apply dr_keep | apply dr_drop)), _, _, _, rfl, Nat.le_refl _, hp1, hp2, rfl⟩
            · try simp only [decide_eq_true_eq, decide_eq_false_iff_not, Bool.not_eq_true', Bool.not_eq_false', Option.isNone_some, Option.isNone_none, Bool.not_true, Bool.not_false] at h
              refine tl_skip rfl ?_
              refine tl_skip rfl ?_
              refine tl_skip rfl ?_
              refine tl_skip rfl ?_
              refine tl_skip rfl ?_
              refine tl_v rfl (o_pick_f rfl (by conv => lhs; whnf)) ?_
              refine tl_nil ?_
              refine q_then_n ?_
              refine tc_cond_f rfl ?_
              refine tc_exit ?_
              refine q_then_e (q_then_e (q_block_x (q_then_n ?_)))
              refine tc_seq ?_
              obtain ⟨q0, q1, q2, q3, q4, pe, hpl, hpl4, hpl5⟩ := planT_five (n : Int)
              refine tc_reg ?_
              refine tl_v rfl (o_fieldAddr (o := 0) Try.underlying121 rfl rfl sz3 rfl) ?_
              refine tl_v rfl (by first | exact o_load p3 rfl (by repeat (first | with_reducible exact has_here | with_reducible exact has_pt | apply has_left)) rfl | exact o_loadC p3 rfl (by assumption)) ?_
              refine tl_c rfl (o_call bd19 rfl (PlanR_q hpl)) ?_
              rintro _ _ ⟨rfl, rfl⟩
              refine tl_v rfl (o_move (by conv => lhs; whnf)) ?_
              refine tl_v rfl (o_extract rfl rfl) ?_
              refine tl_v rfl (o_extract rfl rfl) ?_
              refine tl_x rfl (o_alloc z23 rfl) ?_
              rintro _ _ ⟨b6, rfl, rfl⟩
              refine tl_u rfl (o_stUN (l' := ints [q0, q1, q2, q3, q4]) rfl (by repeat (first | with_reducible exact upd_here | with_reducible exact upd_pt | apply upd_left)) sz23 rfl rfl rfl (by show 5 ≤ 5; decide) rfl) ?_
              refine tl_v rfl (o_assign (by conv => lhs; whnf)) ?_
              refine tl_nil ?_
              refine q_then_n ?_
              refine tc_seq ?_
              refine tc_seq ?_
              refine tc_reg ?_
              refine tl_v rfl (o_fieldAddr (o := 3) Try.underlying121 rfl rfl sz4 rfl) ?_
              refine tl_v rfl (by first | exact o_load p4 rfl (by repeat (first | with_reducible exact has_here | with_reducible exact has_pt | apply has_left)) rfl | exact o_loadC p4 rfl (by assumption)) ?_
              refine tl_v rfl (o_move (by conv => lhs; whnf)) ?_
              refine tl_bool (d := 62) rfl (fun h => ?_) (fun h => ?_)
              · try simp only [decide_eq_true_eq, decide_eq_false_iff_not, Bool.not_eq_true', Bool.not_eq_false', Option.isNone_some, Option.isNone_none, Bool.not_true, Bool.not_false] at h
                refine tl_v rfl (o_move (by conv => lhs; whnf)) ?_
                refine tl_v rfl (o_eqi rfl rfl) ?_
                refine tl_v rfl (o_pick_t rfl (by conv => lhs; whnf)) ?_
                refine tl_nil ?_
                refine q_then_n ?_
                refine tc_cond rfl (fun h => ?_) (fun h => ?_)
                · have hpe : pe = 0 := by simp at h; omega
                  subst hpe
                  have hn64 : 64 ≤ n := by have := planT_zero hpl; omega
                  obtain ⟨hL1, hL2⟩ := lineT_len q0 q1 q2 q3 q4
                  refine tc_seq ?_
                  refine tc_reg ?_
                  refine tl_v rfl (o_loadN (vs := ints [q0, q1, q2, q3, q4]) a23 sz23 rfl (by repeat (first | with_reducible exact has_here | with_reducible exact has_pt | apply has_left)) (by show 5 ≤ 5; decide) rfl) ?_
                  refine tl_c rfl (o_call bd21 rfl (LineR_u (q0 := q0) (q1 := q1) (q2 := q2) (q3 := q3) (q4 := q4))) ?_
                  rintro _ _ ⟨a68, c68, rfl, hc68, rfl⟩
                  obtain ⟨L, hL⟩ : ∃ L, L = (lineT q0 q1 q2 q3 q4).1 := ⟨_, rfl⟩
                  rw [← hL] at hL1 hL2 hc68 ⊢
                  refine tl_v rfl (o_move (by conv => lhs; whnf)) ?_
                  refine tl_v rfl (o_extract rfl rfl) ?_
                  refine tl_v rfl (o_extract rfl rfl) ?_
                  refine tl_v rfl (o_assign (by conv => lhs; whnf)) ?_
                  refine tl_v rfl (o_assign (by conv => lhs; whnf)) ?_
                  refine tl_nil ?_
                  refine q_then_n ?_
                  refine tc_seq ?_
                  refine tc_seq ?_
                  refine tc_reg ?_
                  refine tl_v rfl (o_assign (by conv => lhs; whnf)) ?_
                  refine tl_nil ?_
                  refine q_then_n ?_
                  refine tc_block ?_
                  refine tc_loop (fun kk ρ BB => ∃ (i : Nat) (xs : List Nat), (i ≤ L.length) ∧ (xs.length = n) ∧ (∀ x ∈ xs, x < 256) ∧ kk = L.length - i ∧ ρ 10 = .int .i64 (i : Nat) ∧ ρ 1 = .pointer (some ⟨b1, 0, none⟩) ∧ ρ 3 = .slice (some ⟨b21, 0, none⟩) n n ∧ ρ 8 = .slice a68 L.length c68 ∧ BB = A * pt b1 (cl [.int .i64 (n : Int), .int .u8 (fl : Nat), .slice ha hd.length hcp, .bool rt, .int .i64 tn] 121) * Sl 1 (.slice (some ⟨b21, 0, none⟩) n n) n (bys xs) * pt b6 (cl (ints [q0, q1, q2, q3, q4]) 23) * Sl 1 (.slice a68 L.length c68) L.length (bys L)) (m := L.length - (0)) ?_ ?_
                  · exact ⟨0, xs, Nat.zero_le _, hp1, hp2, rfl, rfl, rfl, rfl, rfl, rfl⟩
                  · intro k ρ B hI
                    obtain ⟨i, xs, hp0, hp1, hp2, hkk3, hE10, hE1, hE3, hE8, rfl⟩ := hI
                    refine tc_env (d := 10) hE10 ?_
                    refine tc_env (d := 1) hE1 ?_
                    refine tc_env (d := 3) hE3 ?_
                    refine tc_env (d := 8) hE8 ?_
                    clear hE10 hE1 hE3 hE8
                    refine tc_seq ?_
                    refine tc_seq ?_
                    refine tc_reg ?_
                    refine tl_v rfl (o_move (by conv => lhs; whnf)) ?_
                    refine tl_v rfl (o_move (by conv => lhs; whnf)) ?_
                    refine tl_v rfl (o_len Try.underlying28 rfl) ?_
                    refine tl_v rfl (o_lss rfl rfl) ?_
                    refine tl_nil ?_
                    refine q_then_n ?_
                    refine tc_cond rfl (fun h => ?_) (fun h => ?_)
                    · have hi : i < L.length := by simpa using h
                      refine tc_skip ?_
                      refine q_then_n ?_
                      refine tc_seq ?_
                      refine tc_block ?_
                      refine tc_reg ?_
                      refine tl_v rfl (o_move (by conv => lhs; whnf)) ?_
                      refine tl_v rfl (o_move (by conv => lhs; whnf)) ?_
                      refine tl_v rfl (o_move (by conv => lhs; whnf)) ?_
                      refine tl_v rfl (o_move (by conv => lhs; whnf)) ?_
                      refine tl_v rfl (o_ixP1 Try.underlying28 sz5 rfl rfl (by omega) (nn_rs (by repeat (first | with_reducible exact rs_sl | apply Rs.left)) (fun _ => by rw [bys_length]; omega))) ?_
                      refine tl_v rfl (o_ldP p5 rfl (by repeat (first | with_reducible exact rs_sl | apply Rs.left)) (bys_at hi)) ?_
                      refine tl_v rfl (o_ixP1 Try.underlying28 sz5 rfl rfl (by first | omega | (simp only [bys_length, ints_length, wds_length, bos_length, List.length_append, List.length_take, List.length_drop, List.length_singleton]; omega)) (by repeat (first | exact nn_some | with_reducible exact nn_sl (by decide) | exact nn_rs (by assumption) (fun _ => by first | omega | (simp only [bys_length, ints_length, wds_length, bos_length, List.length_append, List.length_take, List.length_drop, List.length_singleton]; omega)) | apply Nn.left))) ?_
                      refine tl_u rfl (o_stP (ys := bys (xs.set i L[i])) sz5 rfl rfl rfl (by repeat (first | with_reducible exact ct_here | apply ct_left)) (by omega) (bys_set _ _ _)) ?_
                      refine tl_nil ?_
                      refine q_block_n (q_then_n ?_)
                      refine tc_reg ?_
                      refine tl_v rfl (o_move (by conv => lhs; whnf)) ?_
                      refine tl_v rfl (by first | exact o_addI rfl rfl (by omega) | exact o_add rfl rfl) ?_
                      refine tl_v rfl (o_assign (by conv => lhs; whnf)) ?_
                      refine tl_nil ?_
                      refine q_then_n ?_
                      exact ⟨_, by omega, i + 1, xs.set i L[i], by omega, by rw [List.length_set]; exact hp1, set_lt hp2 (hL2 _ (List.getElem_mem hi)), rfl, rfl, rfl, rfl, rfl, rfl⟩
                    · try simp only [decide_eq_true_eq, decide_eq_false_iff_not, Bool.not_eq_true', Bool.not_eq_false', Option.isNone_some, Option.isNone_none, Bool.not_true, Bool.not_false] at h
                      refine tc_exit ?_
                      refine q_then_e (q_then_e (q_block_x (q_then_n ?_)))
                      refine tc_seq ?_
                      refine tc_reg ?_
                      refine tl_v rfl (o_fieldAddr (o := 4) Try.underlying121 rfl rfl sz3 rfl) ?_
                      refine tl_v rfl (by first | exact o_load p3 rfl (by repeat (first | with_reducible exact has_here | with_reducible exact has_pt | apply has_left)) rfl | exact o_loadC p3 rfl (by assumption)) ?_
                      refine tl_v rfl (o_gtr rfl rfl) ?_
                      refine tl_v rfl (o_move (by conv => lhs; whnf)) ?_
                      refine tl_bool (d := 87) rfl (fun h => ?_) (fun h => ?_)
                      · have ht0 : 0 < tn := by simpa using h
                        refine tl_v rfl (o_fieldAddr (o := 4) Try.underlying121 rfl rfl sz3 rfl) ?_
                        refine tl_v rfl (by first | exact o_load p3 rfl (by repeat (first | with_reducible exact has_here | with_reducible exact has_pt | apply has_left)) rfl | exact o_loadC p3 rfl (by assumption)) ?_
                        refine tl_v rfl (o_leq rfl rfl) ?_
                        refine tl_v rfl (o_pick_t rfl (by conv => lhs; whnf)) ?_
                        refine tl_nil ?_
                        refine q_then_n ?_
                        refine tc_cond rfl (fun h => ?_) (fun h => ?_)
                        · obtain ⟨k, hk, hk5⟩ : ∃ k : Nat, tn - 1 = (k : Int) ∧ k < 512 := ⟨(tn - 1).toNat, by omega, by simp at h; omega⟩
                          have hj8 : k / 8 < xs.length := by omega
                          have hx8 := hp2 _ (List.getElem_mem hj8)
                          have h2p : 2 ^ (k % 8) < 256 := by
                            have : 2 ^ (k % 8) ≤ 2 ^ 7 := Nat.pow_le_pow_right (by decide) (by omega)
                            omega
                          have hx9 : xs[k / 8] ^^^ 2 ^ (k % 8) < 256 := Nat.xor_lt_two_pow (n := 8) (by omega) (by omega)
                          refine tc_regh (S := A * pt b1 (cl [.int .i64 (n : Int), .int .u8 (fl : Nat), .slice ha hd.length hcp, .bool rt, .int .i64 tn] 121)) mo (by repeat (first | with_reducible exact dr_refl | apply dr_keep | apply dr_drop)) ?_
                          show TH _ _ _ _ _ 20 #[false, false, false, false, false, false, false, false, false, false, false, false, false, false, false, false, false, false, false, false] _ _
                          refine th_take (i := 0) (listed' := #[true, false, false, false, false, false, false, false, false, false, false, false, false, false, false, false, false, false, false, false]) rfl (by kernel_rfl) (by kernel_rfl) (by kernel_rfl) rfl rfl (o_move (by conv => lhs; whnf)) ?_
                          refine th_take (i := 1) (listed' := #[true, true, false, false, false, false, false, false, false, false, false, false, false, false, false, false, false, false, false, false]) rfl (by kernel_rfl) (by kernel_rfl) (by kernel_rfl) rfl rfl (o_fieldAddr (o := 4) Try.underlying121 rfl rfl sz3 rfl) ?_
                          refine th_take (i := 2) (listed' := #[true, true, true, false, false, false, false, false, false, false, false, false, false, false, false, false, false, false, false, false]) rfl (by kernel_rfl) (by kernel_rfl) (by kernel_rfl) rfl rfl (by first | exact o_load p3 rfl (by repeat (first | with_reducible exact has_here | with_reducible exact has_pt | apply has_left)) rfl | exact o_loadC p3 rfl (by assumption)) ?_
                          refine th_take (i := 3) (listed' := #[true, true, true, true, false, false, false, false, false, false, false, false, false, false, false, false, false, false, false, false]) rfl (by kernel_rfl) (by kernel_rfl) (by kernel_rfl) rfl rfl (by first | exact o_subI rfl rfl (by omega) | exact o_sub rfl rfl) ?_
                          refine th_env (d := 95) (v := .int .i64 (k : Nat)) (congrArg (Value.int .i64) hk) ?_
                          refine th_take (i := 4) (listed' := #[true, true, true, true, true, false, false, false, false, false, false, false, false, false, false, false, false, false, false, false]) rfl (by kernel_rfl) (by kernel_rfl) (by kernel_rfl) rfl rfl (o_quoN (b := 8) rfl rfl (by omega)) ?_
                          refine th_take (i := 5) (listed' := #[true, true, true, true, true, true, false, false, false, false, false, false, false, false, false, false, false, false, false, false]) rfl (by kernel_rfl) (by kernel_rfl) (by kernel_rfl) rfl rfl (o_move (by conv => lhs; whnf)) ?_
                          refine th_take (i := 6) (listed' := #[true, true, true, true, true, true, true, false, false, false, false, false, false, false, false, false, false, false, false, false]) rfl (by kernel_rfl) (by kernel_rfl) (by kernel_rfl) rfl rfl (o_fieldAddr (o := 4) Try.underlying121 rfl rfl sz3 rfl) ?_
                          refine th_take (i := 7) (listed' := #[true, true, true, true, true, true, true, true, false, false, false, false, false, false, false, false, false, false, false, false]) rfl (by kernel_rfl) (by kernel_rfl) (by kernel_rfl) rfl rfl (by first | exact o_load p3 rfl (by repeat (first | with_reducible exact has_here | with_reducible exact has_pt | apply has_left)) rfl | exact o_loadC p3 rfl (by assumption)) ?_
                          refine th_take (i := 8) (listed' := #[true, true, true, true, true, true, true, true, true, false, false, false, false, false, false, false, false, false, false, false]) rfl (by kernel_rfl) (by kernel_rfl) (by kernel_rfl) rfl rfl (by first | exact o_subI rfl rfl (by omega) | exact o_sub rfl rfl) ?_
                          refine th_env (d := 100) (v := .int .i64 (k : Nat)) (congrArg (Value.int .i64) hk) ?_
                          refine th_take (i := 9) (listed' := #[true, true, true, true, true, true, true, true, true, true, false, false, false, false, false, false, false, false, false, false]) rfl (by kernel_rfl) (by kernel_rfl) (by kernel_rfl) rfl rfl (o_quoN (b := 8) rfl rfl (by omega)) ?_
                          refine th_take (i := 10) (listed' := #[true, true, true, true, true, true, true, true, true, true, true, false, false, false, false, false, false, false, false, false]) rfl (by kernel_rfl) (by kernel_rfl) (by kernel_rfl) rfl rfl (o_ixP1 Try.underlying28 sz5 rfl rfl (by first | omega | (simp only [bys_length, ints_length, wds_length, bos_length, List.length_append, List.length_take, List.length_drop, List.length_singleton]; omega)) (by repeat (first | exact nn_some | with_reducible exact nn_sl (by decide) | exact nn_rs (by assumption) (fun _ => by first | omega | (simp only [bys_length, ints_length, wds_length, bos_length, List.length_append, List.length_take, List.length_drop, List.length_singleton]; omega)) | apply Nn.left))) ?_
                          refine th_take (i := 12) (listed' := #[true, true, true, true, true, true, true, true, true, true, true, false, true, false, false, false, false, false, false, false]) rfl (by kernel_rfl) (by kernel_rfl) (by kernel_rfl) rfl rfl (o_fieldAddr (o := 4) Try.underlying121 rfl rfl sz3 rfl) ?_
                          refine th_take (i := 13) (listed' := #[true, true, true, true, true, true, true, true, true, true, true, false, true, true, false, false, false, false, false, false]) rfl (by kernel_rfl) (by kernel_rfl) (by kernel_rfl) rfl rfl (by first | exact o_load p3 rfl (by repeat (first | with_reducible exact has_here | with_reducible exact has_pt | apply has_left)) rfl | exact o_loadC p3 rfl (by assumption)) ?_
                          refine th_take (i := 14) (listed' := #[true, true, true, true, true, true, true, true, true, true, true, false, true, true, true, false, false, false, false, false]) rfl (by kernel_rfl) (by kernel_rfl) (by kernel_rfl) rfl rfl (by first | exact o_subI rfl rfl (by omega) | exact o_sub rfl rfl) ?_
                          refine th_env (d := 106) (v := .int .i64 (k : Nat)) (congrArg (Value.int .i64) hk) ?_
                          refine th_take (i := 15) (listed' := #[true, true, true, true, true, true, true, true, true, true, true, false, true, true, true, true, false, false, false, false]) rfl (by kernel_rfl) (by kernel_rfl) (by kernel_rfl) rfl rfl (o_remN (b := 8) rfl rfl (by omega)) ?_
                          refine th_take (i := 16) (listed' := #[true, true, true, true, true, true, true, true, true, true, true, false, true, true, true, true, true, false, false, false]) rfl (by kernel_rfl) (by kernel_rfl) (by kernel_rfl) rfl rfl (o_shlm (a := 1) (b := k % 8) rfl rfl rfl rfl (by show _ ≤ 8; omega)) ?_
                          refine th_env (d := 108) (v := .int .u8 ((2 ^ (k % 8) : Nat) : Int)) (congrArg (fun z : Nat => Value.int .u8 (z : Int)) (show 1 * 2 ^ (k % 8) % 256 = 2 ^ (k % 8) by omega)) ?_
                          refine th_one (i := 11) (by kernel_rfl) ?_
                          refine oh_v (i := 11) (listed' := #[true, true, true, true, true, true, true, true, true, true, true, true, true, true, true, true, true, false, false, false]) rfl rfl rfl (o_ldP p5 rfl (by repeat (first | with_reducible exact rs_sl | apply Rs.left)) (bys_at hj8)) ?_
                          refine th_take (i := 17) (listed' := #[true, true, true, true, true, true, true, true, true, true, true, true, true, true, true, true, true, true, false, false]) rfl (by kernel_rfl) (by kernel_rfl) (by kernel_rfl) rfl rfl (o_xorN rfl rfl rfl (by show _ < 256; exact hx8) (by show _ < 256; exact h2p)) ?_
                          refine th_take (i := 18) (listed' := #[true, true, true, true, true, true, true, true, true, true, true, true, true, true, true, true, true, true, true, false]) rfl (by kernel_rfl) (by kernel_rfl) (by kernel_rfl) rfl rfl (o_ixP1 Try.underlying28 sz5 rfl rfl (by first | omega | (simp only [bys_length, ints_length, wds_length, bos_length, List.length_append, List.length_take, List.length_drop, List.length_singleton]; omega)) (by repeat (first | exact nn_some | with_reducible exact nn_sl (by decide) | exact nn_rs (by assumption) (fun _ => by first | omega | (simp only [bys_length, ints_length, wds_length, bos_length, List.length_append, List.length_take, List.length_drop, List.length_singleton]; omega)) | apply Nn.left))) ?_
                          refine th_one (i := 19) (by kernel_rfl) ?_
                          refine oh_u (i := 19) (listed' := #[true, true, true, true, true, true, true, true, true, true, true, true, true, true, true, true, true, true, true, true]) rfl rfl rfl (o_stP (ys := bys (xs.set (k / 8) (xs[k / 8] ^^^ 2 ^ (k % 8)))) sz5 rfl rfl rfl (by repeat (first | with_reducible exact ct_here | apply ct_left)) (by omega) (bys_set _ _ _)) (by repeat (first | with_reducible exact dr_refl | apply dr_keep | apply dr_drop)) ?_
                          refine th_done (by kernel_rfl) ?_
                          refine q_then_n ?_
                          refine tc_seq ?_
                          refine tc_reg ?_
                          refine tl_v rfl (o_move (by conv => lhs; whnf)) ?_
                          refine tl_v rfl (o_assign (by conv => lhs; whnf)) ?_
                          refine tl_nil ?_
                          refine q_then_n ?_
                          refine tc_ret ?_
                          first
                          | exact ⟨.slice (some ⟨b21, 0, none⟩) n n, A * Sl 1 (.slice (some ⟨b21, 0, none⟩) n n) n (bys (xs.set (k / 8) (xs[k / 8] ^^^ 2 ^ (k % 8)))), res1 rfl rfl, Dr.sat (by repeat (first | with_reducible exact dr_refl | apply dr_keep | apply dr_drop)), _, _, _, rfl, Nat.le_refl _, by rw [List.length_set]; exact hp1, set_lt hp2 hx9, rfl⟩
                          | exact ⟨.slice (some ⟨b21, 0, none⟩) n n, A * Sl 1 (.slice (some ⟨b21, 0, none⟩) n n) n (bys xs), res1 rfl rfl, Dr.sat (by repeat (first | with_reducible exact dr_refl | apply dr_keep | apply dr_drop)), _, _, _, rfl, Nat.le_refl _, hp1, hp2, rfl⟩
                        · try simp only [decide_eq_true_eq, decide_eq_false_iff_not, Bool.not_eq_true', Bool.not_eq_false', Option.isNone_some, Option.isNone_none, Bool.not_true, Bool.not_false] at h
                          refine tc_skip ?_
                          refine q_then_n ?_
                          refine tc_seq ?_
                          refine tc_reg ?_
                          refine tl_v rfl (o_move (by conv => lhs; whnf)) ?_
                          refine tl_v rfl (o_assign (by conv => lhs; whnf)) ?_
                          refine tl_nil ?_
                          refine q_then_n ?_
                          refine tc_ret ?_
                          first
                          | exact ⟨.slice (some ⟨b21, 0, none⟩) n n, A * Sl 1 (.slice (some ⟨b21, 0, none⟩) n n) n (bys (xs.set (k / 8) (xs[k / 8] ^^^ 2 ^ (k % 8)))), res1 rfl rfl, Dr.sat (by repeat (first | with_reducible exact dr_refl | apply dr_keep | apply dr_drop)), _, _, _, rfl, Nat.le_refl _, by rw [List.length_set]; exact hp1, set_lt hp2 hx9, rfl⟩
                          | exact ⟨.slice (some ⟨b21, 0, none⟩) n n, A * Sl 1 (.slice (some ⟨b21, 0, none⟩) n n) n (bys xs), res1 rfl rfl, Dr.sat (by repeat (first | with_reducible exact dr_refl | apply dr_keep | apply dr_drop)), _, _, _, rfl, Nat.le_refl _, hp1, hp2, rfl⟩
                      · try simp only [decide_eq_true_eq, decide_eq_false_iff_not, Bool.not_eq_true', Bool.not_eq_false', Option.isNone_some, Option.isNone_none, Bool.not_true, Bool.not_false] at h
                        refine tl_skip rfl ?_
                        refine tl_skip rfl ?_
                        refine tl_skip rfl ?_
                        refine tl_v rfl (o_pick_f rfl (by conv => lhs; whnf)) ?_
                        refine tl_nil ?_
                        refine q_then_n ?_
                        refine tc_cond_f rfl ?_
                        refine tc_skip ?_
                        refine q_then_n ?_
                        refine tc_seq ?_
                        refine tc_reg ?_
                        refine tl_v rfl (o_move (by conv => lhs; whnf)) ?_
                        refine tl_v rfl (o_assign (by conv => lhs; whnf)) ?_
                        refine tl_nil ?_
                        refine q_then_n ?_
                        refine tc_ret ?_
                        first
                        | exact ⟨.slice (some ⟨b21, 0, none⟩) n n, A * Sl 1 (.slice (some ⟨b21, 0, none⟩) n n) n (bys (xs.set (k / 8) (xs[k / 8] ^^^ 2 ^ (k % 8)))), res1 rfl rfl, Dr.sat (by repeat (first | with_reducible exact dr_refl | apply dr_keep | apply dr_drop)), _, _, _, rfl, Nat.le_refl _, by rw [List.length_set]; exact hp1, set_lt hp2 hx9, rfl⟩
                        | exact ⟨.slice (some ⟨b21, 0, none⟩) n n, A * Sl 1 (.slice (some ⟨b21, 0, none⟩) n n) n (bys xs), res1 rfl rfl, Dr.sat (by repeat (first | with_reducible exact dr_refl | apply dr_keep | apply dr_drop)), _, _, _, rfl, Nat.le_refl _, hp1, hp2, rfl⟩
                · try simp only [decide_eq_true_eq, decide_eq_false_iff_not, Bool.not_eq_true', Bool.not_eq_false', Option.isNone_some, Option.isNone_none, Bool.not_true, Bool.not_false] at h
                  refine tc_skip ?_
                  refine q_then_n ?_
                  refine tc_seq ?_
                  refine tc_reg ?_
                  refine tl_v rfl (o_move (by conv => lhs; whnf)) ?_
                  refine tl_v rfl (o_assign (by conv => lhs; whnf)) ?_
                  refine tl_nil ?_
                  refine q_then_n ?_
                  refine tc_ret ?_
                  first
                  | exact ⟨.slice (some ⟨b21, 0, none⟩) n n, A * Sl 1 (.slice (some ⟨b21, 0, none⟩) n n) n (bys (xs.set (k / 8) (xs[k / 8] ^^^ 2 ^ (k % 8)))), res1 rfl rfl, Dr.sat (by repeat (first | with_reducible exact dr_refl | apply dr_keep | apply dr_drop)), _, _, _, rfl, Nat.le_refl _, by rw [List.length_set]; exact hp1, set_lt hp2 hx9, rfl⟩
                  | exact ⟨.slice (some ⟨b21, 0, none⟩) n n, A * Sl 1 (.slice (some ⟨b21, 0, none⟩) n n) n (bys xs), res1 rfl rfl, Dr.sat (by repeat (first | with_reducible exact dr_refl | apply dr_keep | apply dr_drop)), _, _, _, rfl, Nat.le_refl _, hp1, hp2, rfl⟩
              · try simp only [decide_eq_true_eq, decide_eq_false_iff_not, Bool.not_eq_true', Bool.not_eq_false', Option.isNone_some, Option.isNone_none, Bool.not_true, Bool.not_false] at h
                refine tl_skip rfl ?_
                refine tl_skip rfl ?_
                refine tl_v rfl (o_pick_f rfl (by conv => lhs; whnf)) ?_
                refine tl_nil ?_
                refine q_then_n ?_
                refine tc_cond_f rfl ?_
                refine tc_skip ?_
                refine q_then_n ?_
                refine tc_seq ?_
                refine tc_reg ?_
                refine tl_v rfl (o_move (by conv => lhs; whnf)) ?_
                refine tl_v rfl (o_assign (by conv => lhs; whnf)) ?_
                refine tl_nil ?_
                refine q_then_n ?_
                refine tc_ret ?_
                first
                | exact ⟨.slice (some ⟨b21, 0, none⟩) n n, A * Sl 1 (.slice (some ⟨b21, 0, none⟩) n n) n (bys (xs.set (k / 8) (xs[k / 8] ^^^ 2 ^ (k % 8)))), res1 rfl rfl, Dr.sat (by repeat (first | with_reducible exact dr_refl | apply dr_keep | apply dr_drop)), _, _, _, rfl, Nat.le_refl _, by rw [List.length_set]; exact hp1, set_lt hp2 hx9, rfl⟩
                | exact ⟨.slice (some ⟨b21, 0, none⟩) n n, A * Sl 1 (.slice (some ⟨b21, 0, none⟩) n n) n (bys xs), res1 rfl rfl, Dr.sat (by repeat (first | with_reducible exact dr_refl | apply dr_keep | apply dr_drop)), _, _, _, rfl, Nat.le_refl _, hp1, hp2, rfl⟩
theorem zero_c {A : SP} {a : Option Addr} {c m : Nat} {xs : List Nat} (hr : Rs A a (bys xs) := by repeat (first | assumption | with_reducible exact rs_sl | with_reducible exact rs_pt0 | exact rs_none | apply Rs.left)) (hm : xs.length = m := by first | assumption | rfl) (hl : m ≤ 140737488351232 := by omega) :
    Fn Try.prog 76 #[.slice a m c] (A) (fun r B => r = .bool (decide (∀ x ∈ xs, x = 0)) ∧ A = B) := by
  refine fn_enterW (args := [.slice a m c]) Try.func76 rfl Try.ntmps76 (by simp) ?_
  refine tc_seq ?_
  refine tc_reg ?_
  refine tl_v rfl (o_assign (by conv => lhs; whnf)) ?_
  refine tl_nil ?_
  refine q_then_n ?_
  refine tc_seq ?_
  refine tc_seq ?_
  refine tc_reg ?_
  refine tl_v rfl (o_assign (by conv => lhs; whnf)) ?_
  refine tl_nil ?_
  refine q_then_n ?_
  refine tc_block ?_
  refine tc_loop (fun kk ρ BB => ∃ (i : Nat), (i ≤ m) ∧ (∀ x ∈ xs.take i, x = 0) ∧ kk = m - i ∧ ρ 3 = .int .i64 (i : Nat) ∧ ρ 0 = .slice a m c ∧ BB = A) (m := m - (0)) ?_ ?_
  · exact ⟨0, Nat.zero_le _, by simp, rfl, rfl, rfl, rfl⟩
  · intro k ρ B hI
    obtain ⟨i, hp0, hp1, hkk1, hE3, hE0, hBA⟩ := hI
    obtain rfl := hBA.symm
    refine tc_env (d := 3) hE3 ?_
    refine tc_env (d := 0) hE0 ?_
    clear hE3 hE0
    refine tc_seq ?_
    refine tc_seq ?_
    refine tc_reg ?_
    refine tl_v rfl (o_move (by conv => lhs; whnf)) ?_
    refine tl_v rfl (o_move (by conv => lhs; whnf)) ?_
    refine tl_v rfl (o_len Try.underlying28 rfl) ?_
    refine tl_v rfl (o_lss rfl rfl) ?_
    refine tl_nil ?_
    refine q_then_n ?_
    refine tc_cond rfl (fun h => ?_) (fun h => ?_)
    · have hi : i < xs.length := by simp at h; omega
      refine tc_skip ?_
      refine q_then_n ?_
      refine tc_seq ?_
      refine tc_block ?_
      refine tc_seq ?_
      refine tc_reg ?_
      refine tl_v rfl (o_move (by conv => lhs; whnf)) ?_
      refine tl_v rfl (o_move (by conv => lhs; whnf)) ?_
      refine tl_v rfl (o_ixP1 Try.underlying28 sz5 rfl rfl (by omega) (nn_rs hr (fun _ => by rw [bys_length]; omega))) ?_
      refine tl_v rfl (o_ldP p5 rfl hr (bys_at hi)) ?_
      refine tl_v rfl (o_nei rfl rfl) ?_
      refine tl_nil ?_
      refine q_then_n ?_
      refine tc_cond rfl (fun h => ?_) (fun h => ?_)
      · have hz : xs[i] ≠ 0 := by simp at h; omega
        have hq : decide (∀ x ∈ xs, x = 0) = false := decide_eq_false fun e => hz (e _ (List.getElem_mem hi))
        refine tc_seq ?_
        refine tc_reg ?_
        refine tl_v rfl (o_assign (by conv => lhs; whnf)) ?_
        refine tl_nil ?_
        refine q_then_n ?_
        refine tc_ret ?_
        refine q_block_r (q_then_r (q_then_r (q_block_r (q_then_r ?_))))
        first | exact ⟨.bool true, A, res1 rfl rfl, fun _ _ h => h, by rw [hq], rfl⟩ | exact ⟨.bool false, A, res1 rfl rfl, fun _ _ h => h, by rw [hq], rfl⟩
      · have hz : xs[i] = 0 := by simp at h; omega
        refine tc_skip ?_
        refine q_block_n (q_then_n ?_)
        refine tc_reg ?_
        refine tl_v rfl (o_move (by conv => lhs; whnf)) ?_
        refine tl_v rfl (by first | exact o_addI rfl rfl (by omega) | exact o_add rfl rfl) ?_
        refine tl_v rfl (o_assign (by conv => lhs; whnf)) ?_
        refine tl_nil ?_
        refine q_then_n ?_
        exact ⟨_, by omega, i + 1, by omega, by rw [List.take_succ_eq_append_getElem hi]; intro x hx; rcases List.mem_append.1 hx with h1 | h1; exact hp1 x h1; rw [List.mem_singleton] at h1; rw [h1]; exact hz, rfl, rfl, rfl, rfl⟩
    · obtain rfl : i = m := by simp at h; omega
      have hq : decide (∀ x ∈ xs, x = 0) = true := decide_eq_true (by rw [List.take_of_length_le (by omega)] at hp1; exact hp1)
      refine tc_exit ?_
      refine q_then_e (q_then_e (q_block_x (q_then_n ?_)))
      refine tc_seq ?_
      refine tc_reg ?_
      refine tl_v rfl (o_assign (by conv => lhs; whnf)) ?_
      refine tl_nil ?_
      refine q_then_n ?_
      refine tc_ret ?_
      first | exact ⟨.bool true, A, res1 rfl rfl, fun _ _ h => h, by rw [hq], rfl⟩ | exact ⟨.bool false, A, res1 rfl rfl, fun _ _ h => h, by rw [hq], rfl⟩
end Go.Vl

set_option linter.unusedVariables false
set_option linter.unusedSimpArgs false
namespace Go.Vl
open Go Go.Proofs
theorem goes_map (kp : List Int) (s : DevS) : (goesS kp s).ls.map seenL = s.ls.mapIdx (fun i l => l.st.getD (kOf kp i l.st.length) []) := by
  apply List.ext_getElem?
  intro j
  simp only [goesS, goPart, List.getElem?_map, List.getElem?_mapIdx]
  cases e : s.ls[j]? with
  | none => rfl
  | some l =>
    have hj : j < s.ls.length := (List.getElem?_eq_some_iff.1 e).1
    simp only [Option.map_some, Option.some.injEq]
    rw [if_pos hj]; simp [goL, seenL]
theorem seen_single {l : LineS} (h : l.st.length = 1) {k : Nat} (hk : k < 1) : l.st.getD k [] = seenL l := by
  obtain rfl : k = 0 := by omega
  unfold seenL; rw [h]
theorem goes_single {kp : List Int} {s : DevS} (h : ∀ l ∈ s.ls, l.st.length = 1) : imgS (goesS kp s) = imgS s := by
  refine img_seen ?_
  rw [goes_map]
  apply List.ext_getElem?
  intro j
  simp only [List.getElem?_map, List.getElem?_mapIdx]
  cases e : s.ls[j]? with
  | none => rfl
  | some l =>
    have hl := h l (List.mem_of_getElem? e)
    simp only [Option.map_some, Option.some.injEq]
    exact seen_single hl (by rw [hl]; exact kOf_lt (by decide))
end Go.Vl

set_option linter.unusedVariables false
set_option linter.unusedSimpArgs false
namespace Go.Vl
open Go Go.Proofs
def zz : List Nat := List.replicate 64 0
theorem zz_len : zz.length = 64 := by simp [zz]
theorem zz_lt : ∀ x ∈ zz, x < 256 := fun x hx => by have := List.eq_of_mem_replicate hx; omega
theorem zz_at {i : Nat} (h : i < 64) : zz[i]? = some 0 := by unfold zz; rw [List.getElem?_replicate, if_pos h]
theorem chunk_get {q r : Nat} {I : List Nat} (hr : r < 64) : (chunk q I)[r]? = I[q * 64 + r]? := by unfold chunk; rw [List.getElem?_take, if_pos hr, List.getElem?_drop]
theorem chunk_zero (I : List Nat) : chunk 0 I = I.take 64 := by unfold chunk; rw [Nat.zero_mul, List.drop_zero]
theorem of_chunks {I J : List Nat} {a k : Nat} (hI : I.length = k * 64) (hJ : J.length = k * 64) (h : ∀ q, a ≤ q → q < k → chunk q I = chunk q J) : I.drop (a * 64) = J.drop (a * 64) := by
  apply List.ext_getElem?
  intro i
  rw [List.getElem?_drop, List.getElem?_drop]
  by_cases hx : a * 64 + i < k * 64
  · have := congrArg (fun l => l[(a * 64 + i) % 64]?) (h ((a * 64 + i) / 64) (by omega) (by omega))
    rw [chunk_get (by omega), chunk_get (by omega), show (a * 64 + i) / 64 * 64 + (a * 64 + i) % 64 = a * 64 + i by omega] at this
    exact this
  · rw [List.getElem?_eq_none (by omega), List.getElem?_eq_none (by omega)]
theorem cln_room {s : DevS} (h : Cln s) : Room 1000 s := fun l hl => by have := h l hl; omega
theorem cln_from (n : Nat) (xs : List Nat) : Cln (fromS n xs) := fun l h => by
  obtain ⟨j, hj, rfl⟩ := List.mem_iff_getElem.1 h
  simp [fromS, lineF]
theorem fmt_ce {t : Nat × List Nat} {l : List (Nat × List Nat)} {s s2 : DevS} (h : bytesP (t.1 : Int) t.2 s = (5, s2)) : fmtF (t :: l) s = (5, s2) := by unfold fmtF; rw [h, if_pos (show (5 : Int) ≠ 0 by decide)]
theorem fmt_co {t : Nat × List Nat} {l : List (Nat × List Nat)} {s s2 : DevS} (h : bytesP (t.1 : Int) t.2 s = (0, s2)) : fmtF (t :: l) s = fmtF l s2 := by
  conv => lhs; unfold fmtF
  rw [h, if_neg (by simp)]
theorem spl_in' {I b : List Nat} {p i : Nat} (hp : p + b.length ≤ I.length) (h : p ≤ i ∧ i < p + b.length) : (spl I p b)[i]? = b[i - p]? := by rw [spl_at hp, if_pos h]
theorem spl_out {I b : List Nat} {p i : Nat} (hp : p + b.length ≤ I.length) (h : i < p ∨ p + b.length ≤ i) : (spl I p b)[i]? = I[i]? := by rw [spl_at hp, if_neg (by omega)]
theorem sb_ne {n : Nat} {ns c : List Nat} (h : c[0]? = some 0) : c ≠ sbB (n :: ns) := fun e => by
  obtain ⟨r, hr⟩ := sbB_head n ns
  rw [e, hr] at h
  simp [magicB] at h
def LostI (n : Nat) (xs I : List Nat) : Prop := I.length = n ∧ I.drop 192 = xs.drop 192 ∧ (I.take 192 = xs.take 192 ∨ I.take 64 ≠ sbB [n, 128, 32768, 32896, (n - 32896) / 256, 0] ∨ (I.drop 64).take 128 = List.replicate 128 0)
def DoneI (n : Nat) (xs I : List Nat) : Prop := I.length = n ∧ I.drop 192 = xs.drop 192 ∧ I.take 64 = sbB [n, 128, 32768, 32896, (n - 32896) / 256, 0] ∧ (I.drop 64).take 128 = List.replicate 128 0
theorem zeros_of {I : List Nat} {n : Nat} (hl : I.length = n) (h192 : 192 ≤ n) (h : ∀ i, 64 ≤ i → i < 192 → I[i]? = some 0) : (I.drop 64).take 128 = List.replicate 128 0 := by
  apply List.ext_getElem?
  intro i
  rw [List.getElem?_take, List.getElem?_replicate]
  by_cases hi : i < 128
  · rw [if_pos hi, if_pos hi, List.getElem?_drop]; exact h _ (by omega) (by omega)
  · rw [if_neg hi, if_neg hi]
/-- A Format, wherever the power goes. -/
theorem super_law {n k : Nat} {xs : List Nat} {s : DevS} (hk : n = k * 64) (hn : 36992 ≤ n) (hx : xs.length = n) (hw : WfD s) (hoff : s.off = false) (hc : Cln s) (hls : s.ls.length = k) (hI : imgS s = xs) :
    ∃ e s2, fmtF (fst4 n) s = (e, s2) ∧ WfD s2 ∧ Cln s2 ∧ s2.ls.length = k ∧ ((e = 0 ∧ s2.off = false ∧ DoneI n xs (imgS s2)) ∨ (e = 5 ∧ s2.off = true ∧ LostI n xs (imgS s2))) := by
  have hz := zz_len
  obtain ⟨S, hS⟩ : ∃ S, S = sbB [n, 128, 32768, 32896, (n - 32896) / 256, 0] := ⟨_, rfl⟩
  have hSl : S.length = 64 := by rw [hS]; exact sbB_len rfl
  have hSb : ∀ x ∈ S, x < 256 := by rw [hS]; exact (fst4_wf n (0, sbB [n, 128, 32768, 32896, (n - 32896) / 256, 0]) (by simp [fst4])).2.1
  have hf4 : fst4 n = [(0, zz), (64, zz), (128, zz), (0, S)] := by rw [hS]; rfl
  rw [hf4]
  have imgl : ∀ t : DevS, WfD t → t.ls.length = k → (imgS t).length = n := fun t ht hl => by rw [imgS_len ht, hl, hk]
  -- the first line of zeros
  obtain ⟨e1, s1, r1, q1⟩ := bytes_loss (X := fun q c => (q = 0 → c = chunk 0 xs ∨ c[0]? = some 0) ∧ (0 < q → c = chunk q xs)) (p := 0) (b := zz) hw hoff hc zz_lt (by rw [hz]; decide) (by rw [hz]; omega) (by rw [hz]; exact room_le (cln_room hc) (by decide))
    (fun q hq => by rw [hI]; exact ⟨fun h => by subst h; exact .inl rfl, fun _ => rfl⟩)
    (fun j q hj hj2 _ hq => by
      have hle : (zz.take j).length = j := by rw [List.length_take]; omega
      rw [hI]
      refine ⟨fun h => .inr ?_, fun h => chunk_spl (by omega) (by omega)⟩
      subst h
      rw [chunk_get (by decide), spl_in' (by omega) (by omega), List.getElem?_take, if_pos (by omega), zz_at (by omega)])
  rcases q1 with ⟨rfl, o1, w1, c1, l1, i1⟩ | ⟨rfl, o1, w1, c1, p1, l1⟩
  rotate_left
  · refine ⟨5, s1, fmt_ce r1, w1, c1, by omega, .inr ⟨rfl, o1, imgl _ w1 (by omega), ?_, ?_⟩⟩
    · exact of_chunks (a := 3) (by rw [imgl _ w1 (by omega), hk]) (by omega) fun q h1 h2 => (poss_img w1 p1 (by omega)).2 (by omega)
    · rcases (poss_img w1 p1 (q := 0) (by omega)).1 rfl with h | h
      · left
        have : (imgS s1).drop (0 * 64) = xs.drop (0 * 64) := of_chunks (a := 0) (k := k) (by rw [imgl _ w1 (by omega), hk]) (by omega) fun q h1 h2 => by
          by_cases h0 : q = 0
          · rw [h0]; exact h
          · exact (poss_img w1 p1 (by omega)).2 (by omega)
        rw [Nat.zero_mul, List.drop_zero, List.drop_zero] at this
        rw [this]
      · right; left
        rw [← chunk_zero]
        exact sb_ne h
  rw [show fmtF [(0, zz), (64, zz), (128, zz), (0, S)] s = fmtF [(64, zz), (128, zz), (0, S)] s1 from fmt_co r1]
  rw [hI] at i1
  have hl1 := imgl s1 w1 (by omega)
  have a1 : ∀ i, i < 64 → (imgS s1)[i]? = some 0 := fun i hi => by rw [i1, spl_in' (by omega) (by omega), zz_at (by omega)]
  have b1 : ∀ q, 0 < q → chunk q (imgS s1) = chunk q xs := fun q hq => by rw [i1]; exact chunk_spl (by omega) (by omega)
  -- the second and the third
  have mid : ∀ (p : Nat) (t : DevS), (p = 64 ∨ p = 128) → WfD t → t.off = false → Cln t → t.ls.length = k → (∀ i, i < 64 → (imgS t)[i]? = some 0) → (∀ q, 3 ≤ q → chunk q (imgS t) = chunk q xs) →
      ∃ e t2, bytesP ((p : Nat) : Int) zz t = (e, t2) ∧ WfD t2 ∧ Cln t2 ∧ t2.ls.length = k ∧ ((e = 0 ∧ t2.off = false ∧ imgS t2 = spl (imgS t) p zz) ∨ (e = 5 ∧ t2.off = true ∧ LostI n xs (imgS t2))) := by
    intro p t hp ht ho htc htl ha hb
    have htI := imgl t ht htl
    obtain ⟨e2, s2, r2, q2⟩ := bytes_loss (X := fun q c => (q = 0 → c[0]? = some 0) ∧ (3 ≤ q → c = chunk q xs)) (p := p) (b := zz) ht ho htc zz_lt (by rw [hz]; decide) (by rw [hz]; omega) (by rw [hz]; exact room_le (cln_room htc) (by decide))
      (fun q hq => ⟨fun h => by subst h; rw [chunk_get (by decide)]; exact ha _ (by omega), hb q⟩)
      (fun j q hj hj2 _ hq => by
        have hle : (zz.take j).length = j := by rw [List.length_take]; omega
        refine ⟨fun h => ?_, fun h => by rw [chunk_spl (by omega) (by omega)]; exact hb q h⟩
        subst h
        rw [chunk_get (by decide), spl_out (by omega) (by omega)]; exact ha _ (by omega))
    refine ⟨e2, s2, r2, ?_⟩
    rcases q2 with ⟨rfl, o2, w2, c2, l2, i2⟩ | ⟨rfl, o2, w2, c2, p2, l2⟩
    · exact ⟨w2, c2, by omega, .inl ⟨rfl, o2, i2⟩⟩
    · refine ⟨w2, c2, by omega, .inr ⟨rfl, o2, imgl _ w2 (by omega), ?_, .inr (.inl ?_)⟩⟩
      · exact of_chunks (a := 3) (by rw [imgl _ w2 (by omega), hk]) (by omega) fun q h1 h2 => (poss_img w2 p2 (by omega)).2 (by omega)
      · rw [← chunk_zero]; exact sb_ne ((poss_img w2 p2 (q := 0) (by omega)).1 rfl)
  obtain ⟨e2, s2, r2, w2, c2, l2, q2⟩ := mid 64 s1 (.inl rfl) w1 o1 c1 (by omega) a1 (fun q hq => b1 q (by omega))
  rcases q2 with ⟨rfl, o2, i2⟩ | ⟨rfl, o2, L⟩
  rotate_left
  · exact ⟨5, s2, fmt_ce r2, w2, c2, l2, .inr ⟨rfl, o2, L⟩⟩
  rw [show fmtF [(64, zz), (128, zz), (0, S)] s1 = fmtF [(128, zz), (0, S)] s2 from fmt_co r2]
  have hl2 := imgl s2 w2 l2
  have a2 : ∀ i, i < 128 → (imgS s2)[i]? = some 0 := fun i hi => by
    rw [i2]
    by_cases h : i < 64
    · rw [spl_out (by omega) (by omega)]; exact a1 i h
    · rw [spl_in' (by omega) (by omega), zz_at (by omega)]
  have b2 : ∀ q, 3 ≤ q → chunk q (imgS s2) = chunk q xs := fun q hq => by rw [i2, chunk_spl (by omega) (by omega)]; exact b1 q (by omega)
  obtain ⟨e3, s3, r3, w3, c3, l3, q3⟩ := mid 128 s2 (.inr rfl) w2 o2 c2 l2 (fun i hi => a2 i (by omega)) b2
  rcases q3 with ⟨rfl, o3, i3⟩ | ⟨rfl, o3, L⟩
  rotate_left
  · exact ⟨5, s3, fmt_ce r3, w3, c3, l3, .inr ⟨rfl, o3, L⟩⟩
  rw [show fmtF [(128, zz), (0, S)] s2 = fmtF [(0, S)] s3 from fmt_co r3]
  have hl3 := imgl s3 w3 l3
  have a3 : ∀ i, i < 192 → (imgS s3)[i]? = some 0 := fun i hi => by
    rw [i3]
    by_cases h : i < 128
    · rw [spl_out (by omega) (by omega)]; exact a2 i h
    · rw [spl_in' (by omega) (by omega), zz_at (by omega)]
  have b3 : ∀ q, 3 ≤ q → chunk q (imgS s3) = chunk q xs := fun q hq => by rw [i3, chunk_spl (by omega) (by omega)]; exact b2 q hq
  -- the superblock
  obtain ⟨e4, s4, r4, q4⟩ := bytes_loss (X := fun q c => (0 < q → q < 3 → ∀ r, r < 64 → c[r]? = some 0) ∧ (3 ≤ q → c = chunk q xs)) (p := 0) (b := S) w3 o3 c3 hSb (by omega) (by omega) (by rw [hSl]; exact room_le (cln_room c3) (by decide))
    (fun q hq => ⟨fun h0 h1 r hr => by rw [chunk_get hr]; exact a3 _ (by omega), b3 q⟩)
    (fun j q hj hj2 _ hq => by
      have hle : (S.take j).length = j := by rw [List.length_take]; omega
      exact ⟨fun h0 h1 r hr => by rw [chunk_get hr, spl_out (by omega) (by omega)]; exact a3 _ (by omega), fun h => by rw [chunk_spl (by omega) (by omega)]; exact b3 q h⟩)
  rcases q4 with ⟨rfl, o4, w4, c4, l4, i4⟩ | ⟨rfl, o4, w4, c4, p4, l4⟩
  · have hl4 := imgl s4 w4 (by omega)
    refine ⟨0, s4, (fmt_co r4).trans rfl, w4, c4, by omega, .inl ⟨rfl, o4, hl4, ?_, ?_, ?_⟩⟩
    · exact of_chunks (a := 3) (k := k) (by omega) (by omega) fun q h1 h2 => by rw [i4, chunk_spl (by omega) (by omega)]; exact b3 q h1
    · rw [i4, ← hS]
      unfold spl
      rw [List.take_zero, List.nil_append, ← hSl, List.take_left]
    · exact zeros_of hl4 (by omega) fun i h1 h2 => by rw [i4, spl_out (by omega) (by omega)]; exact a3 i h2
  · have hl4 := imgl s4 w4 (by omega)
    refine ⟨5, s4, fmt_ce r4, w4, c4, by omega, .inr ⟨rfl, o4, hl4, ?_, .inr (.inr ?_)⟩⟩
    · exact of_chunks (a := 3) (k := k) (by omega) (by omega) fun q h1 h2 => (poss_img w4 p4 (by omega)).2 (by omega)
    · refine zeros_of hl4 (by omega) fun i h1 h2 => ?_
      have := (poss_img w4 p4 (q := i / 64) (by omega)).1 (by omega) (by omega) (i % 64) (by omega)
      rw [chunk_get (by omega), show i / 64 * 64 + i % 64 = i by omega] at this
      exact this
/-- What is read then. -/
theorem rd_is {n k : Nat} {s : DevS} (hk : n = k * 64) (hn : 36992 ≤ n) (hoff : s.off = false) (hl : s.ls.length = k) : rdA s = rdT n (imgS s) := by
  unfold rdA; rw [if_neg (by rw [hoff]; decide), if_pos (by omega), hl, ← hk]
theorem nm_zeros : nm ((List.replicate 128 0).take 8) = 0 := by decide
theorem root_t {n k : Nat} {s : DevS} (hk : n = k * 64) (hn : 36992 ≤ n) (hoff : s.off = false) (hl : s.ls.length = k) (h : (imgS s).take 64 = sbB [n, 128, 32768, 32896, (n - 32896) / 256, 0]) (hz : ((imgS s).drop 64).take 128 = List.replicate 128 0) : rootA s = (0, 0) := by
  have hr : rdA s = ([(n : Int), ((128 : Nat) : Int), ((32768 : Nat) : Int), ((32896 : Nat) : Int), (((n - 32896) / 256 : Nat) : Int)], 0) := by rw [rd_is hk hn hoff hl, rdT_t h]
  unfold rootA wordP loadP
  rw [hr, if_neg (by simp), if_neg (by rw [hoff]; decide), if_neg (by decide), hoff, rdy_ok (by decide) (by decide) (by omega), if_neg (by simp)]
  have e : ((imgS s).drop (64 : Int).toNat).take 8 = (List.replicate 128 0).take 8 := by rw [← hz, List.take_take]; rfl
  rw [e, nm_zeros]
theorem root_f {n k : Nat} {s : DevS} (hk : n = k * 64) (hn : 36992 ≤ n) (hoff : s.off = false) (hl : s.ls.length = k) (h : (imgS s).take 64 ≠ sbB [n, 128, 32768, 32896, (n - 32896) / 256, 0]) : rdA s = ([0, 0, 0, 0, 0], 100) ∧ rootA s = (0, 100) := by
  have hr : rdA s = ([0, 0, 0, 0, 0], 100) := by rw [rd_is hk hn hoff hl, rdT_f h]
  refine ⟨hr, ?_⟩
  unfold rootA
  rw [hr, if_pos (show (100 : Int) ≠ 0 by decide)]
theorem lost_rd {n k : Nat} {xs : List Nat} {s : DevS} (hk : n = k * 64) (hn : 36992 ≤ n) (hoff : s.off = false) (hl : s.ls.length = k) (h : LostI n xs (imgS s)) :
    (imgS s).take 192 = xs.take 192 ∨ (rdA s = ([0, 0, 0, 0, 0], 100) ∧ rootA s = (0, 100)) ∨ (rdA s = ([(n : Int), ((128 : Nat) : Int), ((32768 : Nat) : Int), ((32896 : Nat) : Int), (((n - 32896) / 256 : Nat) : Int)], 0) ∧ rootA s = (0, 0) ∧ ((imgS s).drop 64).take 128 = List.replicate 128 0) := by
  rcases h.2.2 with h | h | h
  · exact .inl h
  · exact .inr (.inl (root_f hk hn hoff hl h))
  · by_cases c : (imgS s).take 64 = sbB [n, 128, 32768, 32896, (n - 32896) / 256, 0]
    · exact .inr (.inr ⟨by rw [rd_is hk hn hoff hl, rdT_t c], root_t hk hn hoff hl c h, h⟩)
    · exact .inr (.inl (root_f hk hn hoff hl c))
end Go.Vl
