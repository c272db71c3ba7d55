/- What follows is a calculus of its own for walking Go code: assertions on memory (separation logic), frames as functions, and one lemma for each kind of operation. It names no program. Conditions: none. -/
import Derived.Deep.QuietTactic
import Derived.BigQuiet
import Derived.WalkKit
set_option linter.unusedVariables false
namespace Go.Vl

/-! ## Assertions -/

/-- A part of memory: of some blocks the object, and whether it is shared (then nobody writes it). -/
abbrev Hp := Nat → Option (Obj × Bool)

def Hp.dis (h k : Hp) : Prop := ∀ b, h b = none ∨ k b = none ∨ ∃ o, h b = some (o, true) ∧ k b = some (o, true)
def Hp.un (h k : Hp) : Hp := fun b => (h b).or (k b)

/-- An assertion on a part of memory. -/
def SP : Type := Hp → Prop

def SP.star (A B : SP) : SP := fun h => ∃ x y : Hp, x.dis y ∧ h = x.un y ∧ A x ∧ B y
instance : Mul SP := ⟨SP.star⟩

def emp : SP := fun h => h = fun _ => none
def pure_ (p : Prop) : SP := fun h => p ∧ h = fun _ => none
def ex {α : Type} (A : α → SP) : SP := fun h => ∃ x, A x h

/-- Block b holds the object o, and is owned. -/
def pt (b : Nat) (o : Obj) : SP := fun h => h = fun k => if k = b then some (o, false) else none
/-- Block b holds the object o, and nobody writes it. -/
def ro (b : Nat) (o : Obj) : SP := fun h => h = fun k => if k = b then some (o, true) else none

/-- A row of cells that is not frozen. -/
def cl (l : List Value) (E : TypeId) : Obj := .cells l.toArray E (0, 0)

theorem Hp.un_comm {x y : Hp} (h : x.dis y) : x.un y = y.un x := by
  funext b
  simp only [Hp.un]
  rcases h b with h | h | ⟨o, h1, h2⟩
  · rw [h]; simp
  · rw [h]; simp
  · rw [h1, h2]

theorem Hp.dis.symm {x y : Hp} (h : x.dis y) : y.dis x := fun b => by
  rcases h b with h | h | ⟨o, h1, h2⟩
  · exact .inr (.inl h)
  · exact .inl h
  · exact .inr (.inr ⟨o, h2, h1⟩)

theorem Hp.un_assoc (x y z : Hp) : (x.un y).un z = x.un (y.un z) := by
  funext b; simp only [Hp.un, Option.or_assoc]

theorem Hp.dis_un_left {x y z : Hp} (hxy : x.dis y) : (x.un y).dis z ↔ x.dis z ∧ y.dis z := by
  constructor
  · intro h
    refine ⟨fun b => ?_, fun b => ?_⟩
    · rcases h b with h | h | ⟨o, h1, h2⟩
      · left; simp only [Hp.un, Option.or_eq_none_iff] at h; exact h.1
      · exact .inr (.inl h)
      · simp only [Hp.un] at h1
        cases hx : x b with
        | none => exact .inl rfl
        | some p => rw [hx] at h1; simp at h1; exact .inr (.inr ⟨o, by rw [h1], h2⟩)
    · rcases h b with h | h | ⟨o, h1, h2⟩
      · left; simp only [Hp.un, Option.or_eq_none_iff] at h; exact h.2
      · exact .inr (.inl h)
      · simp only [Hp.un] at h1
        rcases hxy b with h' | h' | ⟨o', h3, h4⟩
        · rw [h'] at h1; simp at h1; exact .inr (.inr ⟨o, h1, h2⟩)
        · exact .inl h'
        · rw [h3] at h1; simp at h1; subst h1; exact .inr (.inr ⟨o', h4, h2⟩)
  · rintro ⟨h1, h2⟩ b
    rcases h1 b with h | h | ⟨o, h3, h4⟩
    · rcases h2 b with h' | h' | ⟨o, h3, h4⟩
      · left; simp only [Hp.un, h, h', Option.or]
      · exact .inr (.inl h')
      · exact .inr (.inr ⟨o, by simp [Hp.un, h, h3], h4⟩)
    · exact .inr (.inl h)
    · exact .inr (.inr ⟨o, by simp [Hp.un, h3], h4⟩)

theorem Hp.dis_un_right {x y z : Hp} (hyz : y.dis z) : x.dis (y.un z) ↔ x.dis y ∧ x.dis z := by
  constructor
  · intro h
    have := (Hp.dis_un_left hyz).1 h.symm
    exact ⟨this.1.symm, this.2.symm⟩
  · intro h
    exact ((Hp.dis_un_left hyz).2 ⟨h.1.symm, h.2.symm⟩).symm

theorem SP.ext {A B : SP} (h : ∀ x, A x ↔ B x) : A = B := funext fun x => propext (h x)

theorem star_def (A B : SP) (h : Hp) : (A * B) h ↔ ∃ x y : Hp, x.dis y ∧ h = x.un y ∧ A x ∧ B y := Iff.rfl

theorem star_comm (A B : SP) : A * B = B * A := by
  apply SP.ext
  intro h
  constructor
  · rintro ⟨x, y, hd, rfl, ha, hb⟩; exact ⟨y, x, hd.symm, Hp.un_comm hd, hb, ha⟩
  · rintro ⟨x, y, hd, rfl, ha, hb⟩; exact ⟨y, x, hd.symm, Hp.un_comm hd, hb, ha⟩

theorem star_assoc (A B C : SP) : A * B * C = A * (B * C) := by
  apply SP.ext
  intro h
  constructor
  · rintro ⟨xy, z, hd, rfl, ⟨x, y, hd', rfl, ha, hb⟩, hc⟩
    have := (Hp.dis_un_left hd').1 hd
    exact ⟨x, y.un z, (Hp.dis_un_right this.2).2 ⟨hd', this.1⟩, Hp.un_assoc _ _ _, ha, y, z, this.2, rfl, hb, hc⟩
  · rintro ⟨x, yz, hd, rfl, ha, y, z, hd', rfl, hb, hc⟩
    have := (Hp.dis_un_right hd').1 hd
    exact ⟨x.un y, z, (Hp.dis_un_left this.1).2 ⟨this.2, hd'⟩, (Hp.un_assoc _ _ _).symm, ⟨x, y, this.1, rfl, ha, hb⟩, hc⟩

theorem emp_star (A : SP) : emp * A = A := by
  apply SP.ext
  intro h
  constructor
  · rintro ⟨x, y, hd, rfl, ha, hb⟩
    have : x = fun _ => none := ha
    subst this
    have e : Hp.un (fun _ => none) y = y := by funext b; simp [Hp.un]
    rw [e]; exact hb
  · intro ha
    exact ⟨fun _ => none, h, fun _ => .inl rfl, by funext b; simp [Hp.un], rfl, ha⟩

theorem star_emp (A : SP) : A * emp = A := by rw [star_comm, emp_star]

instance : Std.Associative (α := SP) (· * ·) := ⟨star_assoc⟩
instance : Std.Commutative (α := SP) (· * ·) := ⟨star_comm⟩

theorem star_left_comm (A B C : SP) : A * (B * C) = B * (A * C) := by
  rw [← star_assoc, star_comm A B, star_assoc]

theorem star_swap (A B C : SP) : A * B * C = A * C * B := by
  rw [star_assoc, star_comm B C, ← star_assoc]

theorem ex_star {α : Type} (A : α → SP) (B : SP) : ex A * B = ex fun x => A x * B := by
  apply SP.ext
  intro h
  constructor
  · rintro ⟨x, y, hd, rfl, ⟨i, ha⟩, hb⟩; exact ⟨i, x, y, hd, rfl, ha, hb⟩
  · rintro ⟨i, x, y, hd, rfl, ha, hb⟩; exact ⟨x, y, hd, rfl, ⟨i, ha⟩, hb⟩

theorem star_ex {α : Type} (A : α → SP) (B : SP) : B * ex A = ex fun x => B * A x := by
  rw [star_comm, ex_star]; congr 1; funext x; rw [star_comm]

/-! ## Worlds -/

structure Gh where
  os : Os
  tape : Nat → Question → Nat
  out : Array (Nat × ByteArray)

structure sat (g : Gh) (w : World) (A : SP) : Prop where
  os : w.os = g.os
  tape : w.tape = g.tape
  out : w.output = g.out
  hp : ∃ h : Hp, A h ∧ ∀ b o f, h b = some (o, f) → w.heap[b]? = some o

theorem sat.mono {g : Gh} {w : World} {A B : SP} (h : sat g w A) (k : ∀ x, A x → B x) : sat g w B :=
  ⟨h.os, h.tape, h.out, let ⟨x, ha, hx⟩ := h.hp; ⟨x, k x ha, hx⟩⟩

theorem sat.left {g : Gh} {w : World} {A B : SP} (h : sat g w (A * B)) : sat g w A := by
  obtain ⟨_, ⟨x, y, hd, rfl, ha, hb⟩, hx⟩ := h.hp
  exact ⟨h.os, h.tape, h.out, x, ha, fun b o f hb' => hx b o f (by simp [Hp.un, hb'])⟩

theorem sat.right {g : Gh} {w : World} {A B : SP} (h : sat g w (A * B)) : sat g w B := by
  rw [star_comm] at h; exact h.left

theorem sat_ex {g : Gh} {w : World} {α : Type} {A : α → SP} : sat g w (ex A) ↔ ∃ x, sat g w (A x) := by
  constructor
  · intro h
    obtain ⟨x, ⟨i, ha⟩, hx⟩ := h.hp
    exact ⟨i, h.os, h.tape, h.out, x, ha, hx⟩
  · rintro ⟨i, h⟩
    exact h.mono fun x hx => ⟨i, hx⟩

theorem sat.draw {g : Gh} {w w' : World} {A : SP} (h : sat g w A) (e1 : w'.heap = w.heap) (e2 : w'.os = w.os) (e3 : w'.tape = w.tape) (e4 : w'.output = w.output) : sat g w' A :=
  ⟨e2.trans h.os, e3.trans h.tape, e4.trans h.out, by rw [e1]; exact h.hp⟩

theorem sat.drewN {g : Gh} {w : World} {A : SP} (h : sat g w A) (k : Nat) : sat g (w.drewN k) A := h.draw rfl rfl rfl rfl

/-- The block b holds o, in every world of the assertion. -/
def Has (A : SP) (b : Nat) (o : Obj) : Prop := ∀ g w, sat g w A → w.heap[b]? = some o

theorem has_pt {b : Nat} {o : Obj} : Has (pt b o) b o := fun g w h => by
  obtain ⟨x, rfl, hx⟩ := h.hp
  exact hx b o false (by simp)
theorem has_ro {b : Nat} {o : Obj} : Has (ro b o) b o := fun g w h => by
  obtain ⟨x, rfl, hx⟩ := h.hp
  exact hx b o true (by simp)
theorem has_hereR {R : SP} {b : Nat} {o : Obj} : Has (R * ro b o) b o := fun g w h => has_ro g w h.right

/-- What is shared may be told twice. -/
theorem ro_dup (b : Nat) (o : Obj) : ro b o = ro b o * ro b o := by
  apply SP.ext
  intro h
  constructor
  · rintro rfl
    refine ⟨_, _, fun k => ?_, ?_, rfl, rfl⟩
    · by_cases hk : k = b
      · subst hk; exact .inr (.inr ⟨o, by simp, by simp⟩)
      · left; simp [hk]
    · funext k; simp [Hp.un]
  · rintro ⟨x, y, _, rfl, rfl, rfl⟩
    show _ = _
    funext k; simp [Hp.un]

/-- What is owned may be shared from now on. -/
theorem sat.share {g : Gh} {w : World} {R : SP} {b : Nat} {o : Obj} (h : sat g w (R * pt b o)) : sat g w (R * ro b o) := by
  refine ⟨h.os, h.tape, h.out, ?_⟩
  obtain ⟨_, ⟨x, y, hd, rfl, ha, rfl⟩, hx⟩ := h.hp
  have hxb : x b = none := by
    rcases hd b with h | h | ⟨o', h1, h2⟩
    · exact h
    · simp at h
    · simp at h2
  refine ⟨x.un fun k => if k = b then some (o, true) else none, ⟨x, _, fun k => ?_, rfl, ha, rfl⟩, fun k v f hv => ?_⟩
  · by_cases hk : k = b
    · subst hk; exact .inl hxb
    · right; left; simp [hk]
  · by_cases hk : k = b
    · subst hk
      simp only [Hp.un, hxb, if_true, Option.none_or, Option.some.injEq, Prod.mk.injEq] at hv
      exact hx k v false (by simp [Hp.un, hxb, hv.1])
    · exact hx k v f (by simpa [Hp.un, hk] using hv)
theorem has_here {R : SP} {b : Nat} {o : Obj} : Has (R * pt b o) b o := fun g w h => has_pt g w h.right
theorem has_left {R X : SP} {b : Nat} {o : Obj} (k : Has R b o) : Has (R * X) b o := fun g w h => k g w h.left
theorem has_right {R X : SP} {b : Nat} {o : Obj} (k : Has X b o) : Has (R * X) b o := fun g w h => k g w h.right

/-- A becomes A' where the object of block b turns from o into o'. -/
def Upd (A : SP) (b : Nat) (o o' : Obj) (A' : SP) : Prop := ∃ R, A = R * pt b o ∧ A' = R * pt b o'

theorem upd_pt {b : Nat} {o o' : Obj} : Upd (pt b o) b o o' (pt b o') := ⟨emp, (emp_star _).symm, (emp_star _).symm⟩
theorem upd_here {R : SP} {b : Nat} {o o' : Obj} : Upd (R * pt b o) b o o' (R * pt b o') := ⟨R, rfl, rfl⟩
theorem upd_left {R R' X : SP} {b : Nat} {o o' : Obj} (k : Upd R b o o' R') : Upd (R * X) b o o' (R' * X) := by
  obtain ⟨S, rfl, rfl⟩ := k
  exact ⟨S * X, star_swap _ _ _, star_swap _ _ _⟩

theorem heap_set {w : World} {b k : Nat} {o' : Obj} {f : Obj → Obj} : (w.heap.modify b f)[k]? = if b = k then (w.heap[k]?).map f else w.heap[k]? := by
  rw [Array.getElem?_modify]

theorem Upd.sat {A A' : SP} {b : Nat} {o o' : Obj} (u : Upd A b o o' A') {g : Gh} {w w' : World} (h : sat g w A)
    (e1 : ∀ k, w'.heap[k]? = if k = b then some o' else w.heap[k]?) (e2 : w'.os = w.os) (e3 : w'.tape = w.tape) (e4 : w'.output = w.output) : sat g w' A' := by
  obtain ⟨R, rfl, rfl⟩ := u
  refine ⟨e2.trans h.os, e3.trans h.tape, e4.trans h.out, ?_⟩
  obtain ⟨_, ⟨x, y, hd, rfl, ha, hb⟩, hx⟩ := h.hp
  have hy : y = fun k => if k = b then some (o, false) else none := hb
  subst hy
  have hxb : x b = none := by
    rcases hd b with h | h | ⟨o', h1, h2⟩
    · exact h
    · simp at h
    · simp at h2
  refine ⟨x.un fun k => if k = b then some (o', false) else none, ⟨x, _, fun k => ?_, rfl, ha, rfl⟩, fun k v f hv => ?_⟩
  · by_cases hk : k = b
    · subst hk; exact .inl hxb
    · right; left; simp [hk]
  · rw [e1]
    by_cases hk : k = b
    · subst hk
      simp only [Hp.un, hxb, if_true, Option.none_or, Option.some.injEq, Prod.mk.injEq] at hv
      simp [hv.1]
    · simp only [hk, if_false]
      apply hx k v f
      simpa [Hp.un, hk] using hv

theorem Upd.has {A A' : SP} {b : Nat} {o o' : Obj} (u : Upd A b o o' A') : Has A b o := by
  obtain ⟨R, rfl, rfl⟩ := u; exact has_here

theorem sat.alloc {g : Gh} {w : World} {A : SP} (h : sat g w A) (o : Obj) : sat g (w.alloc o) (A * pt w.heap.size o) := by
  refine ⟨h.os, h.tape, h.out, ?_⟩
  obtain ⟨x, ha, hx⟩ := h.hp
  have hn : ∀ k, w.heap.size ≤ k → x k = none := fun k hk => by
    cases hxk : x k with
    | none => rfl
    | some v => have := hx k v.1 v.2 hxk; rw [Array.getElem?_eq_none hk] at this; cases this
  refine ⟨x.un fun k => if k = w.heap.size then some (o, false) else none, ⟨x, _, fun k => ?_, rfl, ha, rfl⟩, fun k v f hv => ?_⟩
  · by_cases hk : k = w.heap.size
    · subst hk; exact .inl (hn _ (Nat.le_refl _))
    · right; left; simp [hk]
  · show (w.heap.push o)[k]? = _
    rw [Array.getElem?_push]
    by_cases hk : k = w.heap.size
    · subst hk
      simp only [Hp.un, hn _ (Nat.le_refl _), if_true, Option.none_or, Option.some.injEq, Prod.mk.injEq] at hv
      simp [hv.1]
    · rw [if_neg hk]
      apply hx k v f
      simpa [Hp.un, hk] using hv

/-- All blocks of W, as they were; nobody writes them. -/
def old (W : World) : SP := fun h => h = fun b => (W.heap[b]?).map (·, true)

theorem sat_old (W : World) : sat ⟨W.os, W.tape, W.output⟩ W (old W) := ⟨rfl, rfl, rfl, _, rfl, fun b o f h => by
  cases hb : W.heap[b]? with
  | none => simp [hb] at h
  | some v => simp [hb] at h; rw [h.1]⟩

theorem has_old {W : World} {b : Nat} {o : Obj} (h : W.heap[b]? = some o) : Has (old W) b o := fun g w hs => by
  obtain ⟨x, rfl, hx⟩ := hs.hp
  exact hx b o true (by simp [h])

theorem old_dup (W : World) : old W = old W * old W := by
  apply SP.ext
  intro h
  constructor
  · rintro rfl
    refine ⟨_, _, fun k => ?_, ?_, rfl, rfl⟩
    · cases hk : W.heap[k]? with
      | none => left; simp
      | some v => exact .inr (.inr ⟨v, by simp, by simp⟩)
    · funext k; simp [Hp.un]
  · rintro ⟨x, y, _, rfl, rfl, rfl⟩
    show _ = _
    funext k; simp [Hp.un]

theorem below_of_old {W w : World} (h : sat ⟨W.os, W.tape, W.output⟩ w (old W)) : RowKit.Below W.heap.size W w := by
  obtain ⟨x, rfl, hx⟩ := h.hp
  have hb : ∀ k, k < W.heap.size → w.heap[k]? = W.heap[k]? := fun k hk => by
    have := Array.getElem?_eq_getElem hk
    rw [this]; exact hx _ _ true (by simp [this])
  refine ⟨h.os, h.tape, h.out, ?_, hb⟩
  rcases Nat.lt_or_ge w.heap.size W.heap.size with hlt | hge
  · have := hb _ hlt
    rw [Array.getElem?_eq_none (Nat.le_refl _), Array.getElem?_eq_getElem hlt] at this
    cases this
  · exact hge

/-! ## Frames -/

abbrev Env := Nat → Value
def upd (ρ : Env) (d : Nat) (v : Value) : Env := fun t => bif Nat.beq t d then v else ρ t
def und : Env := fun _ => undef
def ev (n : Nat) (ρ : Env) : Operand → Value
  | .tmp t => bif Nat.blt t n then ρ t else undef
  | .const v => v
  | .global g => .pointer (some ⟨g, 0, none⟩)
  | .func f => .func (.func f) #[] #[]
def put (ρ : Env) : Option Tmp → Value → Env
  | some d, v => upd ρ d v
  | none, _ => ρ
/-- The frame at a function's begin. -/
def argEnv : Env → Nat → List Value → Env
  | ρ, _, [] => ρ
  | ρ, k, v :: l => argEnv (upd ρ k v) (k + 1) l

theorem env_set {ρ : Env} {d : Nat} {v : Value} (h : ρ d = v) : ρ = upd ρ d v := by
  funext t
  simp only [upd]
  cases hb : Nat.beq t d with
  | false => rfl
  | true => rw [Nat.eq_of_beq_eq_true hb, h]; rfl

structure Agr (n : Nat) (ρ : Env) (a : Act) : Prop where
  df : a.defers = []
  sz : a.tmps.size = n
  ev : ∀ t, t < n → a.tmps.getD t undef = ρ t

theorem Agr.eval {n : Nat} {ρ : Env} {a : Act} (h : Agr n ρ a) : a.eval = Vl.ev n ρ := by
  funext x
  cases x with
  | tmp t =>
    simp only [Act.eval, Vl.ev]
    cases hb : Nat.blt t n with
    | true => exact h.ev t (Nat.blt_eq.mp hb)
    | false =>
      have hge : n ≤ t := by
        rcases Nat.lt_or_ge t n with hlt | hge
        · rw [Nat.blt_eq.mpr hlt] at hb; cases hb
        · exact hge
      rw [Array.getD_eq_getD_getElem?, Array.getElem?_eq_none (by rw [h.sz]; exact hge)]
      rfl
  | const v => rfl
  | global g => rfl
  | func f => rfl

theorem Agr.put {n : Nat} {ρ : Env} {a : Act} (h : Agr n ρ a) (d : Option Tmp) (v : Value) : Agr n (Vl.put ρ d v) (a.put d v) := by
  cases d with
  | none => exact h
  | some d =>
    refine ⟨h.df, by simp [Act.put, h.sz], fun t ht => ?_⟩
    simp only [Act.put, Vl.put, upd]
    rw [Array.getD_eq_getD_getElem?, Array.getElem?_setIfInBounds]
    cases hb : Nat.beq t d with
    | true =>
      have := Nat.eq_of_beq_eq_true hb
      subst this
      simp [h.sz, ht]
    | false =>
      have hne : ¬ d = t := fun e => by subst e; rw [Nat.beq_refl] at hb; cases hb
      rw [if_neg hne, ← h.ev t ht, Array.getD_eq_getD_getElem?]; rfl

/-! ## Judgements -/

/-- Where code goes, on frames and assertions. -/
abbrev Post := Exit → Env → SP → Prop

def okE : Exit → Bool
  | .panic _ | .outgrown => false
  | _ => true
def lift (g : Gh) (n : Nat) (Q : Post) : Exit → Act → World → Prop := fun e a w => okE e = true ∧ ∃ ρ A, Agr n ρ a ∧ sat g w A ∧ Q e ρ A

def TC (P : Program) (n : Nat) (c : Code) (Q : Post) (ρ : Env) (A : SP) : Prop :=
  ∀ g a w, Agr n ρ a → sat g w A → c.wp P (lift g n Q) a w

def TL (P : Program) (n : Nat) (ops : Array Oper) (Q : Post) (l : List Oper) (ρ : Env) (A : SP) : Prop :=
  ∀ g a w, Agr n ρ a → sat g w A → wpList P ops (lift g n Q) l a w

/-- A call: what it hands back, and what holds of memory behind it. -/
def Fn (P : Program) (f : FuncId) (args : Array Value) (A : SP) (Q : Value → SP → Prop) : Prop :=
  ∀ g w, sat g w A → Calls P f args w fun e w' => ∃ v B, e = .returned v ∧ Q v B ∧ sat g w' B

theorem Fn.mono {P : Program} {f : FuncId} {args : Array Value} {A : SP} {Q Q' : Value → SP → Prop} (h : Fn P f args A Q) (k : ∀ v B, Q v B → Q' v B) : Fn P f args A Q' :=
  fun g w hs => (h g w hs).mono fun _ _ ⟨v, B, e, q, s⟩ => ⟨v, B, e, k v B q, s⟩

/-- A stronger assertion ahead of it. -/
theorem Fn.pre {P : Program} {f : FuncId} {args : Array Value} {A A' : SP} {Q : Value → SP → Prop} (h : Fn P f args A Q) (k : ∀ g w, sat g w A' → sat g w A) : Fn P f args A' Q :=
  fun g w hs => h g w (k g w hs)

section
variable {P : Program} {n : Nat} {Q : Post} {ρ : Env} {A : SP}

def thenQ (K : Env → SP → Prop) (Q : Post) : Post
  | .normal, ρ, A => K ρ A
  | e, ρ, A => Q e ρ A

def blockQ (id : Nat) (Q : Post) : Post
  | .exit k, ρ, A => bif Nat.beq k id then Q .normal ρ A else Q (.exit k) ρ A
  | e, ρ, A => Q e ρ A

theorem q_then_n {K : Env → SP → Prop} (h : K ρ A) : thenQ K Q .normal ρ A := h
theorem q_then_r {K : Env → SP → Prop} (h : Q .ret ρ A) : thenQ K Q .ret ρ A := h
theorem q_then_e {K : Env → SP → Prop} {id : Nat} (h : Q (.exit id) ρ A) : thenQ K Q (.exit id) ρ A := h
theorem q_block_n {id : Nat} (h : Q .normal ρ A) : blockQ id Q .normal ρ A := h
theorem q_block_r {id : Nat} (h : Q .ret ρ A) : blockQ id Q .ret ρ A := h
theorem q_block_x {id : Nat} (h : Q .normal ρ A) : blockQ id Q (.exit id) ρ A := by simp only [blockQ, Nat.beq_refl, cond_true]; exact h
theorem q_block_e {id k : Nat} (hk : Nat.beq k id = false) (h : Q (.exit k) ρ A) : blockQ id Q (.exit k) ρ A := by simp only [blockQ, hk, cond_false]; exact h

theorem tc_imp {c : Code} {Q' : Post} (h : TC P n c Q ρ A) (k : ∀ e ρ A, Q e ρ A → Q' e ρ A) : TC P n c Q' ρ A :=
  fun g a w ha hs => wp_mono (h g a w ha hs) fun _ _ _ ⟨o, ρ, A, x, y, z⟩ => ⟨o, ρ, A, x, y, k _ _ _ z⟩

theorem tc_pre {c : Code} {A' : SP} (k : ∀ g w, sat g w A → sat g w A') (h : TC P n c Q ρ A') : TC P n c Q ρ A :=
  fun g a w ha hs => h g a w ha (k g w hs)

theorem tc_eq {c : Code} {A' : SP} (k : A = A') (h : TC P n c Q ρ A') : TC P n c Q ρ A := k ▸ h

theorem tc_ex {c : Code} {α : Type} {B : α → SP} (h : ∀ x, TC P n c Q ρ (B x)) : TC P n c Q ρ (ex B) :=
  fun g a w ha hs => let ⟨x, hx⟩ := sat_ex.1 hs; h x g a w ha hx

theorem tc_env {c : Code} {d : Nat} {v : Value} (h : ρ d = v) (k : TC P n c Q (upd ρ d v) A) : TC P n c Q ρ A := by
  rw [← env_set h] at k; exact k

theorem tc_seq {x y : Code} (h : TC P n x (thenQ (TC P n y Q) Q) ρ A) : TC P n (x.seq y) Q ρ A := fun g a w ha hs =>
  wp_seq (wp_mono (h g a w ha hs) fun e a' w' ⟨hok, ρ', A', ha', hs', hq⟩ => by
    cases e with
    | normal => exact hq g a' w' ha' hs'
    | _ => exact ⟨hok, ρ', A', ha', hs', hq⟩)

theorem tc_skip (h : Q .normal ρ A) : TC P n .skip Q ρ A := fun g a w ha hs => wp_skip ⟨rfl, ρ, A, ha, hs, h⟩
theorem tc_label {l : Nat} (h : Q .normal ρ A) : TC P n (.label l) Q ρ A := fun g a w ha hs => wp_label ⟨rfl, ρ, A, ha, hs, h⟩
theorem tc_ret (h : Q .ret ρ A) : TC P n .ret Q ρ A := fun g a w ha hs => wp_ret ⟨rfl, ρ, A, ha, hs, h⟩
theorem tc_exit {id : Nat} (h : Q (.exit id) ρ A) : TC P n (.exit id) Q ρ A := fun g a w ha hs => wp_exit ⟨rfl, ρ, A, ha, hs, h⟩

theorem tc_block {id : Nat} {c : Code} (h : TC P n c (blockQ id Q) ρ A) : TC P n (.block id c) Q ρ A := fun g a w ha hs =>
  wp_block (wp_mono (h g a w ha hs) fun e a' w' ⟨hok, ρ', A', ha', hs', hq⟩ => by
    cases e with
    | exit k =>
      simp only [Exit.inBlock]
      by_cases hk : k = id
      · subst hk
        simp only [blockQ, Nat.beq_refl, cond_true] at hq
        rw [if_pos rfl]; exact ⟨rfl, ρ', A', ha', hs', hq⟩
      · have : Nat.beq k id = false := by
          cases hb : Nat.beq k id with
          | false => rfl
          | true => exact absurd (Nat.eq_of_beq_eq_true hb) hk
        simp only [blockQ, this, cond_false] at hq
        rw [if_neg hk]; exact ⟨rfl, ρ', A', ha', hs', hq⟩
    | _ => exact ⟨hok, ρ', A', ha', hs', hq⟩)

theorem tc_cond {c : Operand} {x y : Code} {t : Bool} (hc : ev n ρ c = .bool t) (h1 : t = true → TC P n x Q ρ A) (h2 : t = false → TC P n y Q ρ A) : TC P n (.cond c x y) Q ρ A := fun g a w ha hs => by
  refine wp_cond (t := t) (by rw [ha.eval]; exact hc) ?_
  cases t with
  | true => exact h1 rfl g a w ha hs
  | false => exact h2 rfl g a w ha hs

theorem tc_cond_t {c : Operand} {x y : Code} (hc : ev n ρ c = .bool true) (h : TC P n x Q ρ A) : TC P n (.cond c x y) Q ρ A :=
  tc_cond hc (fun _ => h) (fun e => by cases e)
theorem tc_cond_f {c : Operand} {x y : Code} (hc : ev n ρ c = .bool false) (h : TC P n y Q ρ A) : TC P n (.cond c x y) Q ρ A :=
  tc_cond hc (fun e => by cases e) (fun _ => h)

/-- A loop: what holds at the head of every round, and a number that each round lowers. -/
theorem tc_loop {c : Code} (I : Nat → Env → SP → Prop) {m : Nat} (h0 : I m ρ A)
    (round : ∀ k ρ A, I k ρ A → TC P n c (thenQ (fun ρ' A' => ∃ k', k' < k ∧ I k' ρ' A') Q) ρ A) : TC P n (.loop c) Q ρ A := fun g a w ha hs b kk cs => by
  have key : ∀ k ρ A, I k ρ A → ∀ a w, Agr n ρ a → sat g w A → ∃ e a' w', lift g n Q e a' w' ∧ Arrives P (lone (b.at a (.code c :: .inLoop c :: kk)) cs w) b kk cs e a' w' := by
    intro k
    induction k using Nat.strongRecOn with
    | _ k ih =>
      intro ρ A hI a w ha hs
      obtain ⟨e, a₁, w₁, ⟨hok, ρ₁, A₁, ha₁, hs₁, hq⟩, harr⟩ := round k ρ A hI g a w ha hs b (.inLoop c :: kk) cs
      cases e with
      | normal =>
        obtain ⟨k', hlt, hI'⟩ := hq
        obtain ⟨e₂, a₂, w₂, hq₂, harr₂⟩ := ih k' hlt ρ₁ A₁ hI' a₁ w₁ ha₁ hs₁
        exact ⟨e₂, a₂, w₂, hq₂, .of_steps (Steps.trans harr (.one step_inLoop)) harr₂⟩
      | exit id => exact ⟨_, a₁, w₁, ⟨hok, ρ₁, A₁, ha₁, hs₁, hq⟩, .pass (x := .inLoop c) rfl (fun _ _ => .inl (by simp)) harr⟩
      | goto l => exact ⟨_, a₁, w₁, ⟨hok, ρ₁, A₁, ha₁, hs₁, hq⟩, .pass (x := .inLoop c) rfl (fun _ _ => .inl (by simp)) harr⟩
      | ret => exact ⟨_, a₁, w₁, ⟨hok, ρ₁, A₁, ha₁, hs₁, hq⟩, .pass (x := .inLoop c) rfl (fun _ _ => .inl (by simp)) harr⟩
      | panic ch => exact ⟨_, a₁, w₁, ⟨hok, ρ₁, A₁, ha₁, hs₁, hq⟩, .pass (x := .inLoop c) rfl (fun _ _ => .inl (by simp)) harr⟩
      | outgrown => exact ⟨_, a₁, w₁, ⟨hok, ρ₁, A₁, ha₁, hs₁, hq⟩, .pass (x := .inLoop c) rfl (fun _ _ => .inl (by simp)) harr⟩
  obtain ⟨e, a', w', hq, harr⟩ := key m ρ A h0 a w ha hs
  exact ⟨e, a', w', hq, .of_steps (.one step_loop) harr⟩

/-! ### Operations -/

/-- Is the operation carried out? -/
def wantE (n : Nat) (ops : Array Oper) (ρ : Env) (o : Oper) : Bool :=
  match o.guard with
  | none => true
  | some (j, want) =>
    match (ops[j]?).bind (·.dst) with
    | some d => match ev n ρ (.tmp d) with
      | .bool b => b == want
      | _ => false
    | none => false

theorem want_eq {ops : Array Oper} {a : Act} {o : Oper} (ha : Agr n ρ a) : Region.wanted o (yielded ops a.tmps) = wantE n ops ρ o := by
  unfold Region.wanted wantE
  cases o.guard with
  | none => rfl
  | some gw =>
    obtain ⟨j, want⟩ := gw
    simp only [yielded]
    cases (ops[j]?).bind (·.dst) with
    | none => simp
    | some d =>
      simp only [Option.bind_some]
      have he : ev n ρ (.tmp d) = a.tmps.getD d undef := by rw [← ha.eval]; rfl
      rw [he, Array.getD_eq_getD_getElem?]
      cases a.tmps[d]? with
      | none => simp [undef]
      | some v =>
        cases v <;> simp

/-- It yields v and leaves memory alone. -/
def OpV (P : Program) (n : Nat) (ρ : Env) (A : SP) (o : Oper) (v : Value) : Prop :=
  ∀ g w, sat g w A → (execOp (ev n ρ) o).run P w = .ok (.value v) w

/-- It yields some v and leaves B. -/
def OpX (P : Program) (n : Nat) (ρ : Env) (A : SP) (o : Oper) (R : Value → SP → Prop) : Prop :=
  ∀ g w, sat g w A → ∃ v w' B, (execOp (ev n ρ) o).run P w = .ok (.value v) w' ∧ sat g w' B ∧ R v B

/-- It yields nothing and leaves B. -/
def OpU (P : Program) (n : Nat) (ρ : Env) (A : SP) (o : Oper) (B : SP) : Prop :=
  ∀ g w, sat g w A → ∃ w', (execOp (ev n ρ) o).run P w = .ok .skip w' ∧ sat g w' B

/-- It enters a function. -/
def OpC (P : Program) (n : Nat) (ρ : Env) (A : SP) (o : Oper) (R : Value → SP → Prop) : Prop :=
  ∀ g w, sat g w A → ∃ f args w', (execOp (ev n ρ) o).run P w = .ok (.enter f args) w' ∧ Calls P f args w' fun e w'' => ∃ v B, e = .returned v ∧ R v B ∧ sat g w'' B

section
variable {ops : Array Oper} {o : Oper} {rest : List Oper}

theorem tl_nil (h : Q .normal ρ A) : TL P n ops Q [] ρ A := fun g a w ha hs => wpList_nil ⟨rfl, ρ, A, ha, hs, h⟩

theorem tl_eq {A' : SP} {l : List Oper} (k : A = A') (h : TL P n ops Q l ρ A') : TL P n ops Q l ρ A := k ▸ h

theorem tl_pre {A' : SP} {l : List Oper} (k : ∀ g w, sat g w A → sat g w A') (h : TL P n ops Q l ρ A') : TL P n ops Q l ρ A :=
  fun g a w ha hs => h g a w ha (k g w hs)

theorem tl_ex {α : Type} {l : List Oper} {B : α → SP} (h : ∀ x, TL P n ops Q l ρ (B x)) : TL P n ops Q l ρ (ex B) :=
  fun g a w ha hs => let ⟨x, hx⟩ := sat_ex.1 hs; h x g a w ha hx

theorem tl_env {l : List Oper} {d : Nat} {v : Value} (h : ρ d = v) (k : TL P n ops Q l (upd ρ d v) A) : TL P n ops Q l ρ A := by
  rw [← env_set h] at k; exact k

/-- What pure facts an assertion brings. -/
theorem tl_have {l : List Oper} {p : Prop} (k : ∀ g w, sat g w A → p) (h : p → TL P n ops Q l ρ A) : TL P n ops Q l ρ A :=
  fun g a w ha hs => h (k g w hs) g a w ha hs

theorem tc_have {c : Code} {p : Prop} (k : ∀ g w, sat g w A → p) (h : p → TC P n c Q ρ A) : TC P n c Q ρ A :=
  fun g a w ha hs => h (k g w hs) g a w ha hs

theorem tl_skip (hw : wantE n ops ρ o = false) (k : TL P n ops Q rest (put ρ o.dst undef) A) : TL P n ops Q (o :: rest) ρ A := fun g a w ha hs => by
  unfold wpList
  rw [want_eq ha, hw]
  exact k g _ w (ha.put _ _) hs

theorem tl_v {v : Value} (hw : wantE n ops ρ o = true) (h : OpV P n ρ A o v) (k : TL P n ops Q rest (put ρ o.dst v) A) : TL P n ops Q (o :: rest) ρ A := fun g a w ha hs => by
  unfold wpList
  rw [want_eq ha, hw, if_pos rfl]
  refine .inl ?_
  unfold Oper.wp
  rw [ha.eval, h g w hs]
  exact k g _ w (ha.put _ _) hs

theorem tl_x {R : Value → SP → Prop} (hw : wantE n ops ρ o = true) (h : OpX P n ρ A o R) (k : ∀ v B, R v B → TL P n ops Q rest (put ρ o.dst v) B) : TL P n ops Q (o :: rest) ρ A := fun g a w ha hs => by
  unfold wpList
  rw [want_eq ha, hw, if_pos rfl]
  refine .inl ?_
  unfold Oper.wp
  obtain ⟨v, w', B, hr, hb, hR⟩ := h g w hs
  rw [ha.eval, hr]
  exact k v B hR g _ w' (ha.put _ _) hb

theorem tl_u {B : SP} (hw : wantE n ops ρ o = true) (h : OpU P n ρ A o B) (k : TL P n ops Q rest (put ρ o.dst undef) B) : TL P n ops Q (o :: rest) ρ A := fun g a w ha hs => by
  unfold wpList
  rw [want_eq ha, hw, if_pos rfl]
  refine .inl ?_
  unfold Oper.wp
  obtain ⟨w', hr, hb⟩ := h g w hs
  rw [ha.eval, hr]
  exact k g _ w' (ha.put _ _) hb

theorem tl_c {R : Value → SP → Prop} (hw : wantE n ops ρ o = true) (h : OpC P n ρ A o R) (k : ∀ v B, R v B → TL P n ops Q rest (put ρ o.dst v) B) : TL P n ops Q (o :: rest) ρ A := fun g a w ha hs => by
  unfold wpList
  rw [want_eq ha, hw, if_pos rfl]
  refine .inl ?_
  unfold Oper.wp
  obtain ⟨f, args, w', hr, hc⟩ := h g w hs
  rw [ha.eval, hr]
  refine hc.mono fun e w'' ⟨v, B, he, hR, hb⟩ => ?_
  subst he
  exact k v B hR g _ w'' (ha.put _ _) hb

/-- A test's two ways, inside a region. -/
theorem tl_bool {l : List Oper} {d : Nat} {b : Bool} (hv : ρ d = .bool b) (ht : b = true → TL P n ops Q l (upd ρ d (.bool true)) A) (hf : b = false → TL P n ops Q l (upd ρ d (.bool false)) A) : TL P n ops Q l ρ A := by
  cases b with
  | true => exact tl_env hv (ht rfl)
  | false => exact tl_env hv (hf rfl)

theorem tc_reg {id : Nat} {l : List Oper} (h : TL P n l.toArray Q l ρ A) : TC P n (.region id l.toArray false) Q ρ A :=
  fun g a w ha hs => wp_region_lit (h g a w ha hs)

/-! ### A region that draws its order and only reads -/

def QL (P : Program) (n : Nat) (ops : Array Oper) (A : SP) (K : Env → Prop) (l : List Oper) (ρ : Env) : Prop :=
  ∀ g a, Agr n ρ a → wpQuiet P ops (fun w => sat g w A) (fun a' => ∃ ρ', Agr n ρ' a' ∧ K ρ') l a

theorem ql_nil {K : Env → Prop} (h : K ρ) : QL P n ops A K [] ρ := fun g a ha => wpQuiet_nil ⟨ρ, ha, h⟩

theorem ql_skip {K : Env → Prop} (hw : wantE n ops ρ o = false) (k : QL P n ops A K rest (put ρ o.dst undef)) : QL P n ops A K (o :: rest) ρ := fun g a ha => by
  unfold wpQuiet
  rw [want_eq ha, hw]
  exact k g _ (ha.put _ _)

theorem ql_v {K : Env → Prop} {v : Value} (hw : wantE n ops ρ o = true) (h : OpV P n ρ A o v) (k : QL P n ops A K rest (put ρ o.dst v)) : QL P n ops A K (o :: rest) ρ := fun g a ha => by
  unfold wpQuiet
  rw [want_eq ha, hw, if_pos rfl]
  refine ⟨v, fun w hs => ?_, k g _ (ha.put _ _)⟩
  unfold Oper.quietAt
  rw [ha.eval, h g w hs]
  exact ⟨rfl, rfl⟩

/-- A call that reads: one value, the same assertion behind it. -/
theorem ql_c {K : Env → Prop} {f : FuncId} {args : Array Value} {v : Value} (hw : wantE n ops ρ o = true) (he : ∀ w, (execOp (ev n ρ) o).run P w = .ok (.enter f args) w)
    (h : Fn P f args A fun v' B => v' = v ∧ A = B) (k : QL P n ops A K rest (put ρ o.dst v)) : QL P n ops A K (o :: rest) ρ := fun g a ha => by
  unfold wpQuiet
  rw [want_eq ha, hw, if_pos rfl]
  refine ⟨v, fun w hs => ?_, k g _ (ha.put _ _)⟩
  unfold Oper.quietAt
  rw [ha.eval, he w]
  refine ⟨rfl, (h g w hs).mono ?_⟩
  rintro e w' ⟨v', B, rfl, ⟨rfl, rfl⟩, hb⟩
  exact ⟨rfl, hb⟩

theorem ql_bool {K : Env → Prop} {l : List Oper} {d : Nat} {b : Bool} (hv : ρ d = .bool b) (ht : b = true → QL P n ops A K l (upd ρ d (.bool true))) (hf : b = false → QL P n ops A K l (upd ρ d (.bool false))) : QL P n ops A K l ρ := by
  cases b with
  | true => have := ht rfl; rw [← env_set hv] at this; exact this
  | false => have := hf rfl; rw [← env_set hv] at this; exact this

theorem tc_regq {id : Nat} {l : List Oper} (hm : P.follows .mixedOrders = true) (hB : Region.lexB .any l.toArray = true) (h : QL P n l.toArray A (fun ρ' => Q .normal ρ' A) l ρ) :
    TC P n (.region id l.toArray true) Q ρ A := fun g a w ha hs => by
  refine wp_region_quiet (C := fun w => sat g w A) hm hB (hs.draw rfl rfl rfl rfl) ?_
  have hh := h g a ha
  have he : l.toArray.toList = l := by simp
  rw [he]
  have mono : ∀ (l' : List Oper) (a : Act), wpQuiet P l.toArray (fun w => sat g w A) (fun a' => ∃ ρ', Agr n ρ' a' ∧ Q .normal ρ' A) l' a →
      wpQuiet P l.toArray (fun w => sat g w A) (fun a' => ∀ w', sat g w' A → lift g n Q .normal a' w') l' a := by
    intro l'
    induction l' with
    | nil => intro a ⟨ρ', h1, h2⟩ w' hw'; exact ⟨rfl, ρ', A, h1, hw', h2⟩
    | cons o l' ih =>
      intro a h
      unfold wpQuiet at h ⊢
      split
      · rename_i hw
        rw [if_pos hw] at h
        exact Oper.quiet_mono (fun a => ih a) h
      · rename_i hw
        rw [if_neg hw] at h
        exact ih _ h
  exact mono l a hh

/-! ### A region that draws its order and acts: operation by operation -/

/-- What is left of a region whose listed operations have come up. -/
def TA (P : Program) (n : Nat) (ops : Array Oper) (Q : Post) (fuel : Nat) (listed : Array Bool) (ρ : Env) (A : SP) : Prop :=
  ∀ g a w, Agr n ρ a → sat g w A → wpAny P .any ops (lift g n Q) fuel listed a w

theorem tc_rega {id : Nat} {l : List Oper} (hm : P.follows .mixedOrders = true) (h : TA P n l.toArray Q l.length (Array.replicate l.length false) ρ A) : TC P n (.region id l.toArray true) Q ρ A := fun g a w ha hs =>
  have h1 := h g a { w with drawn := w.drawn + 1 } ha (hs.draw rfl rfl rfl rfl)
  wp_region_any hm (by simpa using h1)

theorem ta_done {fuel : Nat} {listed : Array Bool} (hr : Region.ready .any ops listed = []) (h : Q .normal ρ A) : TA P n ops Q fuel listed ρ A := fun g a w ha hs =>
  wpAny_done hr ⟨rfl, ρ, A, ha, hs, h⟩ fuel

/-- An operation that asks nothing of memory is taken first. -/
theorem ta_pure {fuel i : Nat} {listed listed' : Array Bool} {v : Value} (hi : ops[i]? = some o) (hs' : Region.noSelect ops = true) (hf : Region.free .any ops listed i = true) (hr : (Region.ready .any ops listed).contains i = true)
    (hl : listed.setIfInBounds i true = listed') (hw : wantE n ops ρ o = true) (hv : OpV P n ρ emp o v) (k : TA P n ops Q fuel listed' (put ρ o.dst v) A) : TA P n ops Q (fuel + 1) listed ρ A := fun g a w ha hs =>
  wpAny_take hi hs' hf hr (fun c a w h => absurd h.1 (by simp [okE])) (.inl ⟨by rw [want_eq ha, hw], fun w' => by
    rw [ha.eval]
    exact hv ⟨w'.os, w'.tape, w'.output⟩ w' ⟨rfl, rfl, rfl, _, rfl, fun _ _ _ h => by cases h⟩⟩) (by rw [hl]; exact k g _ w (ha.put _ _) hs)
theorem ta_skip {fuel i : Nat} {listed listed' : Array Bool} (hi : ops[i]? = some o) (hs' : Region.noSelect ops = true) (hf : Region.free .any ops listed i = true) (hr : (Region.ready .any ops listed).contains i = true)
    (hl : listed.setIfInBounds i true = listed') (hw : wantE n ops ρ o = false) (k : TA P n ops Q fuel listed' (put ρ o.dst undef) A) : TA P n ops Q (fuel + 1) listed ρ A := fun g a w ha hs =>
  wpAny_take hi hs' hf hr (fun c a w h => absurd h.1 (by simp [okE])) (.inr ⟨by rw [want_eq ha, hw], rfl⟩) (by rw [hl]; exact k g _ w (ha.put _ _) hs)

/-- One operation, whichever is ready: all that are. -/
def OA (P : Program) (n : Nat) (ops : Array Oper) (Q : Post) (fuel i : Nat) (listed : Array Bool) (ρ : Env) (A : SP) : Prop :=
  ∀ g a w, Agr n ρ a → sat g w A → wpOp P ops (lift g n Q) i (wpAny P .any ops (lift g n Q) fuel (listed.setIfInBounds i true)) a w

theorem ta_all {fuel : Nat} {listed : Array Bool} {rs : List Nat} (hr : Region.ready .any ops listed = rs) (hne : rs ≠ []) (h : ∀ i ∈ rs, OA P n ops Q fuel i listed ρ A) : TA P n ops Q (fuel + 1) listed ρ A := fun g a w ha hs =>
  wpAny_all hr hne fun i hi => h i hi g a w ha hs
theorem ta_one {fuel i : Nat} {listed : Array Bool} (hr : Region.ready .any ops listed = [i]) (h : OA P n ops Q fuel i listed ρ A) : TA P n ops Q (fuel + 1) listed ρ A := ta_all hr (by simp) (by simpa using h)
theorem ta_two {fuel i j : Nat} {listed : Array Bool} (hr : Region.ready .any ops listed = [i, j]) (h : OA P n ops Q fuel i listed ρ A) (h' : OA P n ops Q fuel j listed ρ A) : TA P n ops Q (fuel + 1) listed ρ A :=
  ta_all hr (by simp) (by simpa using ⟨h, h'⟩)
theorem ta_three {fuel i j k : Nat} {listed : Array Bool} (hr : Region.ready .any ops listed = [i, j, k]) (h : OA P n ops Q fuel i listed ρ A) (h' : OA P n ops Q fuel j listed ρ A) (h'' : OA P n ops Q fuel k listed ρ A) : TA P n ops Q (fuel + 1) listed ρ A :=
  ta_all hr (by simp) (by simpa using ⟨h, h', h''⟩)

section
variable {fuel i : Nat} {listed listed' : Array Bool}
theorem oa_skip (hi : ops[i]? = some o) (hl : listed.setIfInBounds i true = listed') (hw : wantE n ops ρ o = false) (k : TA P n ops Q fuel listed' (put ρ o.dst undef) A) : OA P n ops Q fuel i listed ρ A := fun g a w ha hs => by
  subst hl
  unfold wpOp
  simp only [hi, want_eq ha, hw]
  exact k g _ w (ha.put _ _) hs
theorem oa_v {v : Value} (hi : ops[i]? = some o) (hl : listed.setIfInBounds i true = listed') (hw : wantE n ops ρ o = true) (h : OpV P n ρ A o v) (k : TA P n ops Q fuel listed' (put ρ o.dst v) A) : OA P n ops Q fuel i listed ρ A := fun g a w ha hs => by
  subst hl
  unfold wpOp
  simp only [hi, want_eq ha, hw, if_true]
  refine .inl ?_
  unfold Oper.wp
  rw [ha.eval, h g w hs]
  exact k g _ w (ha.put _ _) hs
theorem oa_x {R : Value → SP → Prop} (hi : ops[i]? = some o) (hl : listed.setIfInBounds i true = listed') (hw : wantE n ops ρ o = true) (h : OpX P n ρ A o R) (k : ∀ v B, R v B → TA P n ops Q fuel listed' (put ρ o.dst v) B) : OA P n ops Q fuel i listed ρ A := fun g a w ha hs => by
  subst hl
  unfold wpOp
  simp only [hi, want_eq ha, hw, if_true]
  refine .inl ?_
  unfold Oper.wp
  obtain ⟨v, w', B, hr, hb, hR⟩ := h g w hs
  rw [ha.eval, hr]
  exact k v B hR g _ w' (ha.put _ _) hb
theorem oa_u {B : SP} (hi : ops[i]? = some o) (hl : listed.setIfInBounds i true = listed') (hw : wantE n ops ρ o = true) (h : OpU P n ρ A o B) (k : TA P n ops Q fuel listed' (put ρ o.dst undef) B) : OA P n ops Q fuel i listed ρ A := fun g a w ha hs => by
  subst hl
  unfold wpOp
  simp only [hi, want_eq ha, hw, if_true]
  refine .inl ?_
  unfold Oper.wp
  obtain ⟨w', hr, hb⟩ := h g w hs
  rw [ha.eval, hr]
  exact k g _ w' (ha.put _ _) hb
theorem oa_c {R : Value → SP → Prop} (hi : ops[i]? = some o) (hl : listed.setIfInBounds i true = listed') (hw : wantE n ops ρ o = true) (h : OpC P n ρ A o R) (k : ∀ v B, R v B → TA P n ops Q fuel listed' (put ρ o.dst v) B) : OA P n ops Q fuel i listed ρ A := fun g a w ha hs => by
  subst hl
  unfold wpOp
  simp only [hi, want_eq ha, hw, if_true]
  refine .inl ?_
  unfold Oper.wp
  obtain ⟨f, args, w', hr, hc⟩ := h g w hs
  rw [ha.eval, hr]
  refine hc.mono fun e w'' ⟨v, B, he, hR, hb⟩ => ?_
  subst he
  exact k v B hR g _ w'' (ha.put _ _) hb
end

/-- A split of ways inside such a region, and what is known. -/
theorem ta_bool {fuel : Nat} {listed : Array Bool} {d : Nat} {b : Bool} (hv : ρ d = .bool b) (ht : b = true → TA P n ops Q fuel listed (upd ρ d (.bool true)) A) (hf : b = false → TA P n ops Q fuel listed (upd ρ d (.bool false)) A) : TA P n ops Q fuel listed ρ A := by
  cases b with
  | true => have := ht rfl; rw [← env_set hv] at this; exact this
  | false => have := hf rfl; rw [← env_set hv] at this; exact this
theorem ta_eq {fuel : Nat} {listed : Array Bool} {A' : SP} (k : A = A') (h : TA P n ops Q fuel listed ρ A') : TA P n ops Q fuel listed ρ A := k ▸ h
theorem ta_pre {fuel : Nat} {listed : Array Bool} {A' : SP} (k : ∀ g w, sat g w A → sat g w A') (h : TA P n ops Q fuel listed ρ A') : TA P n ops Q fuel listed ρ A := fun g a w ha hs => h g a w ha (k g w hs)
theorem ta_have {fuel : Nat} {listed : Array Bool} {p : Prop} (k : ∀ g w, sat g w A → p) (h : p → TA P n ops Q fuel listed ρ A) : TA P n ops Q fuel listed ρ A := fun g a w ha hs => h (k g w hs) g a w ha hs

/-- A cut: what holds behind a piece of code. -/
theorem tc_cut {c : Code} (M : Env → SP → Prop) (h : TC P n c (fun e ρ' A' => match e with | .normal => M ρ' A' | e => Q e ρ' A') ρ A) (k : ∀ ρ' A', M ρ' A' → Q .normal ρ' A') : TC P n c Q ρ A :=
  tc_imp h fun e ρ' A' hq => by
    cases e with
    | normal => exact k _ _ hq
    | _ => exact hq

end
end

/-! ## Functions -/

/-- The results, read off the frame and off memory. -/
def Res (P : Program) (n : Nat) (fn : Func) (ρ : Env) (A : SP) (v : Value) : Prop :=
  ∀ g a w, Agr n ρ a → sat g w A → (results fn a.tmps).run P w = .ok v w

def retQ (P : Program) (n : Nat) (fn : Func) (Q : Value → SP → Prop) : Post
  | .ret, ρ, A | .normal, ρ, A => ∃ v, Res P n fn ρ A v ∧ Q v A
  | _, _, _ => False

/-- The same, and what is told of memory may be less. -/
def retW (P : Program) (n : Nat) (fn : Func) (Q : Value → SP → Prop) : Post
  | .ret, ρ, A | .normal, ρ, A => ∃ v A', Res P n fn ρ A v ∧ (∀ g w, sat g w A → sat g w A') ∧ Q v A'
  | _, _, _ => False

theorem fn_enterW {P : Program} {f : FuncId} {fn : Func} {c : Code} {args : List Value} {A : SP} {Q : Value → SP → Prop} {n : Nat} (hf : P.funcs[f]? = some fn) (hb : fn.body = some c)
    (hn : fn.ntmps = n) (hle : args.length ≤ n) (h : TC P n c (retW P n fn Q) (argEnv und 0 args) A) : Fn P f args.toArray A Q := fun g w hs => by
  refine calls_of_wp hf hb (wp_mono (h g _ w ?_ hs) ?_)
  · have hsz : (args.toArray ++ Array.replicate (fn.ntmps - args.toArray.size) undef).size = n := by simp; omega
    refine ⟨rfl, hsz, fun t ht => ?_⟩
    have key : ∀ (l : List Value) (ρ : Env) (k t : Nat), argEnv ρ k l t = if k ≤ t ∧ t < k + l.length then l.getD (t - k) undef else ρ t := by
      intro l
      induction l with
      | nil => intro ρ k t; simp only [argEnv, List.length_nil]; rw [if_neg (by omega)]
      | cons v l ih =>
        intro ρ k t
        simp only [argEnv, ih, List.length_cons]
        by_cases h1 : k + 1 ≤ t ∧ t < k + 1 + l.length
        · rw [if_pos h1, if_pos (by omega)]
          have : t - k = (t - (k + 1)) + 1 := by omega
          rw [this]; simp
        · rw [if_neg h1]
          by_cases h2 : t = k
          · subst h2
            rw [if_pos (by omega)]
            simp [upd]
          · rw [if_neg (by omega)]
            have : Nat.beq t k = false := by
              cases hb : Nat.beq t k with
              | false => rfl
              | true => exact absurd (Nat.eq_of_beq_eq_true hb) h2
            simp [upd, this]
    rw [key]
    rw [Array.getD_eq_getD_getElem?, Array.getElem?_append]
    by_cases h1 : t < args.length
    · rw [if_pos (by simpa using h1), if_pos (by omega)]
      simp
    · rw [if_neg (by simpa using h1), if_neg (by omega)]
      simp only [List.size_toArray] at *
      rw [Array.getElem?_replicate]
      split <;> simp [und]
  · rintro e a' w' ⟨_, ρ', A', ha', hs', hq⟩
    cases e with
    | normal =>
      obtain ⟨v, B, hr, hi, hQ⟩ := hq
      exact ⟨ha'.df, v, hr g a' w' ha' hs', v, B, rfl, hQ, hi g w' hs'⟩
    | ret =>
      obtain ⟨v, B, hr, hi, hQ⟩ := hq
      exact ⟨ha'.df, v, hr g a' w' ha' hs', v, B, rfl, hQ, hi g w' hs'⟩
    | _ => exact hq.elim

theorem fn_enter {P : Program} {f : FuncId} {fn : Func} {c : Code} {args : List Value} {A : SP} {Q : Value → SP → Prop} {n : Nat} (hf : P.funcs[f]? = some fn) (hb : fn.body = some c)
    (hn : fn.ntmps = n) (hle : args.length ≤ n) (h : TC P n c (retQ P n fn Q) (argEnv und 0 args) A) : Fn P f args.toArray A Q :=
  fn_enterW hf hb hn hle (tc_imp h fun e ρ A hq => by
    cases e with
    | normal => obtain ⟨v, hr, hQ⟩ := hq; exact ⟨v, A, hr, fun _ _ h => h, hQ⟩
    | ret => obtain ⟨v, hr, hQ⟩ := hq; exact ⟨v, A, hr, fun _ _ h => h, hQ⟩
    | _ => exact hq.elim)

theorem res0 {P : Program} {n : Nat} {fn : Func} {ρ : Env} {A : SP} (h : fn.results = #[]) : Res P n fn ρ A (.tuple #[]) := fun g a w ha hs => by
  simp [results, h]

theorem res1 {P : Program} {n : Nat} {fn : Func} {ρ : Env} {A : SP} {t : Tmp} {v : Value} (h : fn.results = #[.tmp t]) (hv : ev n ρ (.tmp t) = v) : Res P n fn ρ A v := fun g a w ha hs => by
  have : a.tmps.getD t undef = v := by rw [← hv, ← ha.eval]; rfl
  simp only [results, h]; simp [← this]

theorem res2 {P : Program} {n : Nat} {fn : Func} {ρ : Env} {A : SP} {t u : Tmp} {v1 v2 : Value} (h : fn.results = #[.tmp t, .tmp u]) (h1 : ev n ρ (.tmp t) = v1) (h2 : ev n ρ (.tmp u) = v2) :
    Res P n fn ρ A (.tuple #[v1, v2]) := fun g a w ha hs => by
  have e1 : a.tmps.getD t undef = v1 := by rw [← h1, ← ha.eval]; rfl
  have e2 : a.tmps.getD u undef = v2 := by rw [← h2, ← ha.eval]; rfl
  simp only [results, h]; simp [← e1, ← e2]

theorem res3 {P : Program} {n : Nat} {fn : Func} {ρ : Env} {A : SP} {t u s : Tmp} {v1 v2 v3 : Value} (h : fn.results = #[.tmp t, .tmp u, .tmp s]) (h1 : ev n ρ (.tmp t) = v1) (h2 : ev n ρ (.tmp u) = v2) (h3 : ev n ρ (.tmp s) = v3) :
    Res P n fn ρ A (.tuple #[v1, v2, v3]) := fun g a w ha hs => by
  have e1 : a.tmps.getD t undef = v1 := by rw [← h1, ← ha.eval]; rfl
  have e2 : a.tmps.getD u undef = v2 := by rw [← h2, ← ha.eval]; rfl
  have e3 : a.tmps.getD s undef = v3 := by rw [← h3, ← ha.eval]; rfl
  simp only [results, h]; simp [← e1, ← e2, ← e3]

end Go.Vl
