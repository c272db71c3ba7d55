/- What the row rests on, part 3: a calculus of assertions, walks of functions over it, and plain laws. Conditions: none. -/
import Derived.Deep.QuietTactic
import Derived.BigQuiet
import Derived.WalkKit
import Derived.Test.YtnkeepjpkdjcdaaProg
import Derived.OrdersHeld
import Derived.Laws.BytesArg
import Derived.Lib.Builder
import Derived.Lib.UnsafeStr
import Derived.RangeFuncRecord
import Derived.TacticsIn
import Derived.Deep.Slices
import Derived.OpenShut
import Derived.ChangeArms
import Derived.SizedLaws
import Derived.ChangeSame
import Derived.Test.YtnkeepjpkdjcdaaRows
import Derived.Lib.ConvBytes
import Derived.Laws.AppendOwn
import Derived.Sort.QuietThIn
import Derived.Test.YtnkeepjpkdjcdaaMg2
set_option linter.unusedVariables false
set_option linter.unusedSimpArgs false
namespace Go.Vl.Rg
open Go
/-- Of what make the frame is: a function's, or a round's. -/
class Rm where
  r : Option Nat
def Fc (μ : Rm) : Fence := { Fence.wide with round := μ.r }
/-- The blocks of the deferred calls of loops that were begun: the frame keeps them behind its last slot. -/
def blk : Value → Nat
  | .int _ i => i.toNat
  | _ => 0
def mks : Value → List Nat
  | .tuple vs => vs.toList.map blk
  | _ => []
def mkv (rs : List Nat) : Value := .tuple (rs.map fun r : Nat => Value.int .i64 (r : Int)).toArray
theorem mks_mkv (rs : List Nat) : mks (mkv rs) = rs := by
  simp only [mkv, mks, List.map_map]
  induction rs with
  | nil => rfl
  | cons r rs ih => rw [List.map_cons, ih]; rfl
def mark (r : Nat) : Deferred := { target := .collected r, args := #[] }
def mkO : Obj := .deferred (some [])
structure Agr (n : Nat) (ρ : Env) (a : Act) : Prop where
  df : a.defers = (mks (ρ n)).map mark
  sz : a.tmps.size = n
  ev : ∀ t, t < n → a.tmps.getD t undef = ρ t
def put (n : Nat) (ρ : Env) : Option Tmp → Value → Env
  | some d, v => bif Nat.blt d n then upd ρ d v else ρ
  | none, _ => ρ
theorem Agr.plain {n : Nat} {ρ : Env} {a : Act} (h : Agr n ρ a) : Vl.Agr n ρ { a with defers := [] } := ⟨rfl, h.sz, h.ev⟩
theorem Agr.eval {n : Nat} {ρ : Env} {a : Act} (h : Agr n ρ a) : a.eval = Vl.ev n ρ := by
  rw [← h.plain.eval]; rfl
theorem Agr.put {n : Nat} {ρ : Env} {a : Act} (h : Agr n ρ a) (d : Option Tmp) (v : Value) : Agr n (Rg.put n ρ d v) (a.put d v) := by
  cases d with
  | none => exact h
  | some d =>
    simp only [Rg.put]
    cases hb : Nat.blt d n with
    | true =>
      have hlt := Nat.blt_eq.mp hb
      have := h.plain.put (some d) v
      refine ⟨?_, this.sz, this.ev⟩
      have hn : Nat.beq n d = false := by
        cases hb : Nat.beq n d with
        | false => rfl
        | true => have := Nat.eq_of_beq_eq_true hb; omega
      simp only [Act.put, cond_true, upd, hn, cond_false]
      exact h.df
    | false =>
      have hge : n ≤ d := by
        rcases Nat.lt_or_ge d n with hlt | hge
        · rw [Nat.blt_eq.mpr hlt] at hb; cases hb
        · exact hge
      refine ⟨h.df, by simp [Act.put, h.sz], fun t ht => ?_⟩
      simp only [Act.put, cond_false]
      rw [← h.ev t ht, Array.getD_eq_getD_getElem?, Array.getElem?_setIfInBounds, if_neg (by omega), Array.getD_eq_getD_getElem?]
def lift (g : Gh) (n : Nat) (Q : Post) : Exit → Act → World → Prop := fun e a w => okE e = true ∧ ∃ ρ A, Agr n ρ a ∧ sat g w A ∧ Q e ρ A
def TC [μ : Rm] (P : Program) (n : Nat) (c : Code) (Q : Post) (ρ : Env) (A : SP) : Prop :=
  ∀ g a w, Agr n ρ a → sat g w A → c.wpIn (Fc μ) 0 P (lift g n Q) a w
def TL [μ : Rm] (P : Program) (n : Nat) (ops : Array Oper) (Q : Post) (l : List Oper) (ρ : Env) (A : SP) : Prop :=
  ∀ g a w, Agr n ρ a → sat g w A → wpListIn (Fc μ) 0 P ops (lift g n Q) l a w
/-- A call of yield: what it hands back, and what holds of memory behind it. -/
def Yd (P : Program) (l : Nat) (args : Array Value) (A : SP) (Q : Value → SP → Prop) : Prop :=
  ∀ g w, sat g w A → ∃ f tmps assign body, (Instr.yield l args).run P w = .ok (.round l f tmps assign body) w ∧
    RoundIn Fence.wide 0 P l f tmps assign body w fun e w' => ∃ v B, e = .returned v ∧ Q v B ∧ sat g w' B
theorem Yd.mono {P : Program} {l : Nat} {args : Array Value} {A : SP} {Q Q' : Value → SP → Prop} (h : Yd P l args A Q) (k : ∀ v B, Q v B → Q' v B) : Yd P l args A Q' := fun g w hs =>
  let ⟨f, t, a, b, hy, hr⟩ := h g w hs
  ⟨f, t, a, b, hy, hr.mono fun _ _ ⟨v, B, e, q, s⟩ => ⟨v, B, e, k v B q, s⟩⟩
theorem Yd.pre {P : Program} {l : Nat} {args : Array Value} {A A' : SP} {Q : Value → SP → Prop} (h : Yd P l args A Q) (k : ∀ g w, sat g w A' → sat g w A) : Yd P l args A' Q := fun g w hs => h g w (k g w hs)
section
variable {μ : Rm} {P : Program} {n : Nat} {Q : Post} {ρ : Env} {A : SP}
theorem tc_imp {c : Code} {Q' : Post} (h : TC P n c Q ρ A) (k : ∀ e ρ A, Q e ρ A → Q' e ρ A) : TC P n c Q' ρ A :=
  fun g a w ha hs => wpIn_mono (h g a w ha hs) fun _ _ _ ⟨o, ρ, A, x, y, z⟩ => ⟨o, ρ, A, x, y, k _ _ _ z⟩
theorem tc_pre {c : Code} {A' : SP} (k : ∀ g w, sat g w A → sat g w A') (h : TC P n c Q ρ A') : TC P n c Q ρ A :=
  fun g a w ha hs => h g a w ha (k g w hs)
theorem tc_eq {c : Code} {A' : SP} (k : A = A') (h : TC P n c Q ρ A') : TC P n c Q ρ A := k ▸ h
theorem tc_env {c : Code} {d : Nat} {v : Value} (h : ρ d = v) (k : TC P n c Q (upd ρ d v) A) : TC P n c Q ρ A := by
  rw [← env_set h] at k; exact k
theorem tc_have {c : Code} {p : Prop} (k : ∀ g w, sat g w A → p) (h : p → TC P n c Q ρ A) : TC P n c Q ρ A :=
  fun g a w ha hs => h (k g w hs) g a w ha hs
theorem tc_seq {x y : Code} (h : TC P n x (thenQ (TC P n y Q) Q) ρ A) : TC P n (x.seq y) Q ρ A := fun g a w ha hs =>
  wpIn_seq (wpIn_mono (h g a w ha hs) fun e a' w' ⟨hok, ρ', A', ha', hs', hq⟩ => by
    cases e with
    | normal => exact hq g a' w' ha' hs'
    | _ => exact ⟨hok, ρ', A', ha', hs', hq⟩)
theorem tc_skip (h : Q .normal ρ A) : TC P n .skip Q ρ A := fun g a w ha hs => wpIn_skip ⟨rfl, ρ, A, ha, hs, h⟩
theorem tc_ret (h : Q .ret ρ A) : TC P n .ret Q ρ A := fun g a w ha hs => wpIn_ret ⟨rfl, ρ, A, ha, hs, h⟩
theorem tc_exit {id : Nat} (h : Q (.exit id) ρ A) : TC P n (.exit id) Q ρ A := fun g a w ha hs => wpIn_exit ⟨rfl, ρ, A, ha, hs, h⟩
theorem tc_block {id : Nat} {c : Code} (h : TC P n c (blockQ id Q) ρ A) : TC P n (.block id c) Q ρ A := fun g a w ha hs =>
  wpIn_block (wpIn_mono (h g a w ha hs) fun e a' w' ⟨hok, ρ', A', ha', hs', hq⟩ => by
    cases e with
    | exit k =>
      simp only [Exit.inBlock]
      by_cases hk : k = id
      · subst hk
        simp only [blockQ, Nat.beq_refl, cond_true] at hq
        rw [if_pos rfl]; exact ⟨rfl, ρ', A', ha', hs', hq⟩
      · have : Nat.beq k id = false := by
          cases hb : Nat.beq k id with
          | false => rfl
          | true => exact absurd (Nat.eq_of_beq_eq_true hb) hk
        simp only [blockQ, this, cond_false] at hq
        rw [if_neg hk]; exact ⟨rfl, ρ', A', ha', hs', hq⟩
    | _ => exact ⟨hok, ρ', A', ha', hs', hq⟩)
theorem tc_cond {c : Operand} {x y : Code} {t : Bool} (hc : ev n ρ c = .bool t) (h1 : t = true → TC P n x Q ρ A) (h2 : t = false → TC P n y Q ρ A) : TC P n (.cond c x y) Q ρ A := fun g a w ha hs => by
  refine wpIn_cond (t := t) (by rw [ha.eval]; exact hc) ?_
  cases t with
  | true => exact h1 rfl g a w ha hs
  | false => exact h2 rfl g a w ha hs
theorem tc_cond_t {c : Operand} {x y : Code} (hc : ev n ρ c = .bool true) (h : TC P n x Q ρ A) : TC P n (.cond c x y) Q ρ A := tc_cond hc (fun _ => h) (fun e => by cases e)
theorem tc_cond_f {c : Operand} {x y : Code} (hc : ev n ρ c = .bool false) (h : TC P n y Q ρ A) : TC P n (.cond c x y) Q ρ A := tc_cond hc (fun e => by cases e) (fun _ => h)
theorem tc_cut {c : Code} (M : Env → SP → Prop) (h : TC P n c (fun e ρ' A' => match e with | .normal => M ρ' A' | e => Q e ρ' A') ρ A) (k : ∀ ρ' A', M ρ' A' → Q .normal ρ' A') : TC P n c Q ρ A :=
  tc_imp h fun e ρ' A' hq => by
    cases e with
    | normal => exact k _ _ hq
    | _ => exact hq
theorem tc_loop {c : Code} (I : Nat → Env → SP → Prop) {m : Nat} (h0 : I m ρ A)
    (round : ∀ k ρ A, I k ρ A → TC P n c (thenQ (fun ρ' A' => ∃ k', k' < k ∧ I k' ρ' A') Q) ρ A) : TC P n (.loop c) Q ρ A := fun g a w ha hs b kk cs hro hb hr => by
  have key : ∀ k ρ A, I k ρ A → ∀ a w, Agr n ρ a → sat g w A → ∃ e a' w', lift g n Q e a' w' ∧ ArrivesIn (Machine.fenced P (Fc μ)) P (lone (b.atR a (.code c :: .inLoop c :: kk)) cs w) b kk cs e a' w' := by
    intro k
    induction k using Nat.strongRecOn with
    | _ k ih =>
      intro ρ A hI a w ha hs
      obtain ⟨e, a₁, w₁, ⟨hok, ρ₁, A₁, ha₁, hs₁, hq⟩, harr⟩ := round k ρ A hI g a w ha hs b (.inLoop c :: kk) cs hro hb hr
      cases e with
      | normal =>
        obtain ⟨k', hlt, hI'⟩ := hq
        obtain ⟨e₂, a₂, w₂, hq₂, harr₂⟩ := ih k' hlt ρ₁ A₁ hI' a₁ w₁ ha₁ hs₁
        exact ⟨e₂, a₂, w₂, hq₂, .of_steps (StepsIn.trans harr (.one (fenced_calm hb hr rfl) stepR_inLoop)) harr₂⟩
      | exit id => exact ⟨_, a₁, w₁, ⟨hok, ρ₁, A₁, ha₁, hs₁, hq⟩, .pass (x := .inLoop c) rfl (fun _ _ => .inl (by simp)) harr⟩
      | goto l => exact ⟨_, a₁, w₁, ⟨hok, ρ₁, A₁, ha₁, hs₁, hq⟩, .pass (x := .inLoop c) rfl (fun _ _ => .inl (by simp)) harr⟩
      | ret => exact ⟨_, a₁, w₁, ⟨hok, ρ₁, A₁, ha₁, hs₁, hq⟩, .pass (x := .inLoop c) rfl (fun _ _ => .inl (by simp)) harr⟩
      | panic ch => exact ⟨_, a₁, w₁, ⟨hok, ρ₁, A₁, ha₁, hs₁, hq⟩, .pass (x := .inLoop c) rfl (fun _ _ => .inl (by simp)) harr⟩
      | outgrown => exact ⟨_, a₁, w₁, ⟨hok, ρ₁, A₁, ha₁, hs₁, hq⟩, .pass (x := .inLoop c) rfl (fun _ _ => .inl (by simp)) harr⟩
  obtain ⟨e, a', w', hq, harr⟩ := key m ρ A h0 a w ha hs
  exact ⟨e, a', w', hq, .of_steps (.one (fenced_calm hb hr rfl) stepR_loop) harr⟩
/-! ### Operations -/
theorem want_eq {ops : Array Oper} {a : Act} {o : Oper} (ha : Agr n ρ a) : Region.wanted o (yielded ops a.tmps) = wantE n ops ρ o := by
  have := Vl.want_eq (ops := ops) (o := o) ha.plain
  exact this
theorem sem_eq {ro : Option Nat} {e : Operand → Value} {o : Oper} {w w' : World} {x : Next} (h : (execOp e o).run P w = .ok x w') (hd : ∀ d, x ≠ .defer d) : (Oper.semAt ro e o).run P w = .ok x w' := by
  cases ro with
  | none => exact h
  | some l =>
    by_cases hc : ∃ c, o.op = .defer c
    · exfalso
      obtain ⟨c, hc⟩ := hc
      unfold execOp at h
      rw [hc] at h
      simp only [] at h
      rw [Sem.run_bind] at h
      cases hr : (resolve e c o.type).run P w with
      | ok d w1 => rw [hr] at h; simp [Result.andThen, pure, Sem.run] at h; exact hd d h.1.symm
      | halt x w1 => rw [hr] at h; simp [Result.andThen] at h
    · rw [Oper.semAt_eq _ _ _ fun c e => hc ⟨c, e⟩]; exact h
section
variable {ops : Array Oper} {o : Oper} {rest : List Oper}
theorem tl_nil (h : Q .normal ρ A) : TL P n ops Q [] ρ A := fun g a w ha hs => wpListIn_nil ⟨rfl, ρ, A, ha, hs, h⟩
theorem tl_pre {A' : SP} {l : List Oper} (k : ∀ g w, sat g w A → sat g w A') (h : TL P n ops Q l ρ A') : TL P n ops Q l ρ A := fun g a w ha hs => h g a w ha (k g w hs)
theorem tl_env {l : List Oper} {d : Nat} {v : Value} (h : ρ d = v) (k : TL P n ops Q l (upd ρ d v) A) : TL P n ops Q l ρ A := by
  rw [← env_set h] at k; exact k
theorem tl_bool {l : List Oper} {d : Nat} {b : Bool} (hv : ρ d = .bool b) (ht : b = true → TL P n ops Q l (upd ρ d (.bool true)) A) (hf : b = false → TL P n ops Q l (upd ρ d (.bool false)) A) : TL P n ops Q l ρ A := by
  cases b with
  | true => exact tl_env hv (ht rfl)
  | false => exact tl_env hv (hf rfl)
theorem tl_skip (hw : wantE n ops ρ o = false) (k : TL P n ops Q rest (put n ρ o.dst undef) A) : TL P n ops Q (o :: rest) ρ A := fun g a w ha hs => by
  unfold wpListIn
  rw [want_eq ha, hw]
  exact ⟨fun _ _ => trivial, k g _ w (ha.put _ _) hs⟩
theorem tl_v {v : Value} (hw : wantE n ops ρ o = true) (h : OpV P n ρ A o v) (k : TL P n ops Q rest (put n ρ o.dst v) A) : TL P n ops Q (o :: rest) ρ A := fun g a w ha hs => by
  unfold wpListIn
  rw [want_eq ha, hw, if_pos rfl]
  refine ⟨fun _ _ => trivial, ?_⟩
  rw [ha.eval, sem_eq (h g w hs) (by simp)]
  exact k g _ w (ha.put _ _) hs
theorem tlm {d : Nat} {ty : TypeId} {pos : String} {after : Array Edge} {gd : Option (Nat × Bool)} {x : Operand} {v : Value} (k : TL P n ops Q rest (put n ρ (some d) v) A) (h : ev n ρ x = v := by conv => lhs; whnf) (hw : wantE n ops ρ ⟨some d, .move x, ty, pos, after, gd⟩ = true := by rfl) : TL P n ops Q (⟨some d, .move x, ty, pos, after, gd⟩ :: rest) ρ A := tl_v hw (o_move h) k
theorem tla {d : Nat} {ty : TypeId} {pos : String} {after : Array Edge} {gd : Option (Nat × Bool)} {x : Operand} {v : Value} (k : TL P n ops Q rest (put n ρ (some d) v) A) (h : ev n ρ x = v := by conv => lhs; whnf) (hw : wantE n ops ρ ⟨some d, .assign x, ty, pos, after, gd⟩ = true := by rfl) : TL P n ops Q (⟨some d, .assign x, ty, pos, after, gd⟩ :: rest) ρ A := tl_v hw (o_assign h) k
theorem tl_x {R : Value → SP → Prop} (hw : wantE n ops ρ o = true) (h : OpX P n ρ A o R) (k : ∀ v B, R v B → TL P n ops Q rest (put n ρ o.dst v) B) : TL P n ops Q (o :: rest) ρ A := fun g a w ha hs => by
  unfold wpListIn
  rw [want_eq ha, hw, if_pos rfl]
  refine ⟨fun _ _ => trivial, ?_⟩
  obtain ⟨v, w', B, hr, hb, hR⟩ := h g w hs
  rw [ha.eval, sem_eq hr (by simp)]
  exact k v B hR g _ w' (ha.put _ _) hb
theorem tl_u {B : SP} (hw : wantE n ops ρ o = true) (h : OpU P n ρ A o B) (k : TL P n ops Q rest (put n ρ o.dst undef) B) : TL P n ops Q (o :: rest) ρ A := fun g a w ha hs => by
  unfold wpListIn
  rw [want_eq ha, hw, if_pos rfl]
  refine ⟨fun _ _ => trivial, ?_⟩
  obtain ⟨w', hr, hb⟩ := h g w hs
  rw [ha.eval, sem_eq hr (by simp)]
  exact k g _ w' (ha.put _ _) hb
theorem tl_c {R : Value → SP → Prop} (hw : wantE n ops ρ o = true) (h : OpC P n ρ A o R) (k : ∀ v B, R v B → TL P n ops Q rest (put n ρ o.dst v) B) : TL P n ops Q (o :: rest) ρ A := fun g a w ha hs => by
  unfold wpListIn
  rw [want_eq ha, hw, if_pos rfl]
  refine ⟨fun _ _ => trivial, ?_⟩
  obtain ⟨f, args, w', hr, hc⟩ := h g w hs
  rw [ha.eval, sem_eq hr (by simp)]
  refine ⟨fun h => (by cases h), ?_⟩
  have hc' : CallsIn Fence.wide (0 - 1) P f args w' fun e w'' => ∃ v B, e = .returned v ∧ R v B ∧ sat g w'' B := callsIn_wide.2 hc
  refine CallsIn.mono (show CallsIn (Fc μ) (0 - 1) P f args w' _ from hc') fun e w'' ⟨v, B, he, hR, hb⟩ => ?_
  subst he
  exact k v B hR g _ w'' (ha.put _ _) hb
/-- A call of yield. -/
theorem tl_y {R : Value → SP → Prop} {x : Operand} {l : Nat} {args : Array Operand} {tys : Array TypeId} {vs : List Value} {dst : Option Tmp} {ty : TypeId} {pos : String} {after : Array Edge} {gd : Option (Nat × Bool)}
    (hw : wantE n ops ρ ⟨dst, .call { callee := .value x, args := args, argTypes := tys }, ty, pos, after, gd⟩ = true) (hx : ev n ρ x = .func (.yield l) #[] #[]) (hv : args.toList.map (ev n ρ) = vs) (h : Yd P l vs.toArray A R)
    (k : ∀ v B, R v B → TL P n ops Q rest (put n ρ dst v) B) : TL P n ops Q (⟨dst, .call { callee := .value x, args := args, argTypes := tys }, ty, pos, after, gd⟩ :: rest) ρ A := fun g a w ha hs => by
  unfold wpListIn
  rw [want_eq ha, hw, if_pos rfl]
  refine ⟨fun _ _ => trivial, ?_⟩
  obtain ⟨f, tmps, assign, body, hy, hr⟩ := h g w hs
  have he : args.map (ev n ρ) = vs.toArray := Array.ext' (by rw [Array.toList_map, hv])
  have hex : (execOp (ev n ρ) ⟨dst, .call { callee := .value x, args := args, argTypes := tys }, ty, pos, after, gd⟩).run P w = .ok (.round l f tmps assign body) w := by
    simp only [execOp, resolve, hx, Deferred.ofValue, he]
    rw [run_bind (w' := w) (a := ⟨.fn (.yield l) #[], #[] ++ vs.toArray⟩) (by rfl)]
    simpa [invoke] using hy
  rw [ha.eval, sem_eq hex (by simp)]
  refine ⟨fun h => (by cases h), ?_⟩; refine RoundIn.mono (show RoundIn (Fc μ) (0 - 1) P l f tmps assign body w _ from hr) fun e w'' ⟨v, B, he, hR, hb⟩ => ?_
  subst he
  exact k v B hR g _ w'' (ha.put _ _) hb
theorem tc_reg {id : Nat} {l : List Oper} (h : TL P n l.toArray Q l ρ A) : TC P n (.region id l.toArray false) Q ρ A := fun g a w ha hs => wpIn_region_lit (h g a w ha hs)
end
end
/-! ## Functions -/
/-- The marks' blocks. -/
def Mk : List Nat → SP
  | [] => emp
  | r :: rs => Mk rs * pt r mkO
def retW (P : Program) (n : Nat) (fn : Func) (Q : Value → SP → Prop) : Post
  | .ret, ρ, A | .normal, ρ, A => ∃ rs B, mks (ρ n) = rs ∧ (∀ g w, sat g w A → sat g w (B * Mk rs)) ∧ ∃ v A', Res P n fn ρ B v ∧ (∀ g w, sat g w B → sat g w A') ∧ Q v A'
  | _, _, _ => False
theorem leaves_mk {P : Program} {fn : Func} {tmps : Array Value} {R : Ending → World → Prop} {g : Gh} {B : SP} : ∀ (rs : List Nat) (w : World), sat g w (B * Mk rs) →
    (∀ w, sat g w B → ∃ v, (results fn tmps).run P w = .ok v w ∧ R (.returned v) w) → LeavesInM Fence.wide 0 P fn tmps R (rs.map mark) .returning w
  | [], w, hs, h => h w hs.left
  | r :: rs, w, hs, h => by
    have hs' : sat g w (B * Mk rs * pt r mkO) := by rw [star_assoc]; exact hs
    have hr : w.heap[r]? = some mkO := has_here g w hs'
    refine ⟨by simp, .inl ⟨r, _, rfl, run_takeDeferred hr, leaves_mk rs _ ?_ h⟩⟩
    have hu : Upd (B * Mk rs * pt r mkO) r mkO (.deferred none) (B * Mk rs * pt r (.deferred none)) := upd_here
    have := hu.sat hs' (w' := w.putObj r (.deferred none)) (fun k => by
      by_cases hk : k = r
      · subst hk; rw [if_pos rfl]; exact World.putObj_heap_same (Array.getElem?_eq_some_iff.1 hr).1
      · rw [if_neg hk]; exact World.putObj_heap_other hk) rfl rfl rfl
    exact this.left
instance plainM : Rm := ⟨none⟩
theorem fn_enterW {P : Program} {f : FuncId} {fn : Func} {c : Code} {args : List Value} {A : SP} {Q : Value → SP → Prop} {n : Nat} (hf : P.funcs[f]? = some fn) (hb : fn.body = some c)
    (hn : fn.ntmps = n) (hle : args.length ≤ n) (h : @TC ⟨none⟩ P n c (retW P n fn Q) (argEnv und 0 args) A) : Fn P f args.toArray A Q := fun g w hs => by
  refine callsIn_wide.1 (callsIn_of_wp_marks (n := 0) hf hb trivial (wpIn_mono (h g _ w ?_ hs) ?_))
  · have hsz : (args.toArray ++ Array.replicate (fn.ntmps - args.toArray.size) undef).size = n := by simp; omega
    have key : ∀ (l : List Value) (ρ : Env) (k t : Nat), argEnv ρ k l t = if k ≤ t ∧ t < k + l.length then l.getD (t - k) undef else ρ t := by
      intro l
      induction l with
      | nil => intro ρ k t; simp only [argEnv, List.length_nil]; rw [if_neg (by omega)]
      | cons v l ih =>
        intro ρ k t
        simp only [argEnv, ih, List.length_cons]
        by_cases h1 : k + 1 ≤ t ∧ t < k + 1 + l.length
        · rw [if_pos h1, if_pos (by omega)]
          have : t - k = (t - (k + 1)) + 1 := by omega
          rw [this]; simp
        · rw [if_neg h1]
          by_cases h2 : t = k
          · subst h2
            rw [if_pos (by omega)]
            simp [upd]
          · rw [if_neg (by omega)]
            have : Nat.beq t k = false := by
              cases hb : Nat.beq t k with
              | false => rfl
              | true => exact absurd (Nat.eq_of_beq_eq_true hb) h2
            simp [upd, this]
    refine ⟨?_, hsz, fun t ht => ?_⟩
    · rw [key, if_neg (by omega)]; rfl
    · rw [key]
      rw [Array.getD_eq_getD_getElem?, Array.getElem?_append]
      by_cases h1 : t < args.length
      · rw [if_pos (by simpa using h1), if_pos (by omega)]
        simp
      · rw [if_neg (by simpa using h1), if_neg (by omega)]
        simp only [List.size_toArray] at *
        rw [Array.getElem?_replicate]
        split <;> simp [und]
  · rintro e a' w' ⟨_, ρ', A', ha', hs', hq⟩
    have fin : ∀ a' w', Agr n ρ' a' → sat g w' A' → retW P n fn Q .ret ρ' A' → LeavesInM Fence.wide 0 P fn a'.tmps (fun e w' => ∃ v B, e = .returned v ∧ Q v B ∧ sat g w' B) a'.defers .returning w' := by
      intro a' w' ha' hs' hq
      obtain ⟨rs, B, hm, hB, v, A2, hr, hi, hQ⟩ := hq
      rw [ha'.df, hm]
      exact leaves_mk rs w' (hB g w' hs') fun w hw => ⟨v, by have := hr g _ w ha'.plain hw; exact this, v, A2, rfl, hQ, hi g w hw⟩
    cases e with
    | normal => exact fin a' w' ha' hs' hq
    | ret => exact fin a' w' ha' hs' hq
    | _ => exact hq.elim
/-! ## Rounds -/
/-- A loop's record: its state, the jump that waits, the frame that it copies. -/
def Lp (l : Nat) (st : LoopState) (pe : Option Code) (n : Nat) (ρ : Env) (ps : Array Tmp) (assign body : Code) : SP :=
  ex fun r : Loop => fun h => (r.state = st ∧ r.pending = pe ∧ r.params = ps ∧ r.assign = assign ∧ r.body = body ∧ Vl.Agr n ρ { tmps := r.tmps, defers := [] }) ∧ pt l (.loop r) h
theorem lp_iff {l n : Nat} {st : LoopState} {pe : Option Code} {ρ : Env} {ps : Array Tmp} {assign body : Code} {R : SP} {g : Gh} {w : World} : sat g w (R * Lp l st pe n ρ ps assign body) ↔
    ∃ r : Loop, (r.state = st ∧ r.pending = pe ∧ r.params = ps ∧ r.assign = assign ∧ r.body = body ∧ Vl.Agr n ρ { tmps := r.tmps, defers := [] }) ∧ sat g w (R * pt l (.loop r)) := by
  constructor
  · intro hs
    obtain ⟨_, ⟨x, y, hd, rfl, ha, r, hr, hb⟩, hx⟩ := hs.hp
    exact ⟨r, hr, hs.os, hs.tape, hs.out, _, ⟨x, y, hd, rfl, ha, hb⟩, hx⟩
  · rintro ⟨r, hr, hs⟩
    exact hs.mono fun h ⟨x, y, hd, e, ha, hb⟩ => ⟨x, y, hd, e, ha, r, hr, hb⟩
theorem sat_putObj {R : SP} {l : Nat} {o o' : Obj} {g : Gh} {w : World} (hs : sat g w (R * pt l o)) : sat g (w.putObj l o') (R * pt l o') := by
  have hr : w.heap[l]? = some o := has_here g w hs
  exact (upd_here (R := R) (b := l) (o := o) (o' := o')).sat hs (w' := w.putObj l o') (fun k => by
    by_cases hk : k = l
    · subst hk; rw [if_pos rfl]; exact World.putObj_heap_same (Array.getElem?_eq_some_iff.1 hr).1
    · rw [if_neg hk]; exact World.putObj_heap_other hk) rfl rfl rfl
/-- The frame of a round: yield's arguments in the parameters. -/
def putL (n : Nat) : Env → List Tmp → List Value → Env
  | ρ, t :: ts, v :: vs => putL n (put n ρ (some t) v) ts vs
  | ρ, _, _ => ρ
theorem putL_agr {n : Nat} : ∀ (ts : List Tmp) (vs : List Value) (ρ : Env) (a : Act), Agr n ρ a → Agr n (putL n ρ ts vs) { a with tmps := (ts.zip vs).foldl (fun t (p : Tmp × Value) => t.setIfInBounds p.1 p.2) a.tmps }
  | [], _, _, a, h => by cases a; exact h
  | _ :: _, [], _, a, h => by cases a; exact h
  | t :: ts, v :: vs, ρ, a, h => putL_agr ts vs _ _ (h.put (some t) v)
/-- How a round may be left: by what its body says at its end. -/
def rndQ (l n : Nat) (ρ0 : Env) (ps : Array Tmp) (assign body : Code) (Q : Value → Option Code → SP → Prop) : Post
  | .normal, _, A => ∃ B, (∀ g w, sat g w A → sat g w (B * Lp l .busy none n ρ0 ps assign body)) ∧ Q (.bool true) none B
  | .ret, _, A => ∃ B, (∀ g w, sat g w A → sat g w (B * Lp l .busy none n ρ0 ps assign body)) ∧ Q (.bool false) (some .ret) B
  | .exit id, _, A => ∃ B, (∀ g w, sat g w A → sat g w (B * Lp l .busy none n ρ0 ps assign body)) ∧ Q (.bool false) (some (.exit id)) B
  | _, _, _ => False
def stOf : Option Code → LoopState
  | none => .ready
  | some _ => .done
/-- **A round, out of its body's walk.** -/
theorem yd_body {P : Program} {l n : Nat} {ρ : Env} {ps : Array Tmp} {assign body : Code} {A : SP} {vs : List Value} {Q : Value → Option Code → SP → Prop} (hn : vs.length = ps.size) (hm : mks (ρ n) = [])
    (h : @TC ⟨some l⟩ P n assign (fun e ρ' A' => match e with
      | .normal => ∃ B, (∀ g w, sat g w A' → sat g w (B * Lp l .ready none n ρ ps assign body)) ∧ @TC ⟨some l⟩ P n body (rndQ l n ρ ps assign body Q) ρ' (B * Lp l .busy none n ρ ps assign body)
      | _ => False) (putL n ρ ps.toList vs) (A * Lp l .ready none n ρ ps assign body)) :
    Yd P l vs.toArray (A * Lp l .ready none n ρ ps assign body) (fun v B => ∃ C j, Q v j C ∧ B = C * Lp l (stOf j) j n ρ ps assign body) := fun g w hs => by
  obtain ⟨r, ⟨h1, h2, h3, h4, h5, h6⟩, hs'⟩ := lp_iff.1 hs
  have hl : w.heap[l]? = some (.loop r) := has_here g w hs'
  refine ⟨r.fn, (r.params.zip vs.toArray).foldl (fun tmps (x : Tmp × Value) => tmps.setIfInBounds x.1 x.2) r.tmps, assign, body, ?_, ?_⟩
  · have := run_yield (P := P) (args := vs.toArray) hl (by simp [h3, hn])
    rw [h4, h5] at this; exact this
  have ha0 : Agr n ρ { tmps := r.tmps, defers := [] } := ⟨by rw [hm]; rfl, h6.sz, h6.ev⟩
  have ha := putL_agr ps.toList vs ρ _ ha0
  have e0 : ((r.params.zip vs.toArray).foldl (fun tmps (x : Tmp × Value) => tmps.setIfInBounds x.1 x.2) r.tmps) = ((ps.toList.zip vs).foldl (fun t (p : Tmp × Value) => t.setIfInBounds p.1 p.2) r.tmps) := by
    rw [h3, ← Array.foldl_toList, Array.toList_zip]
  refine roundIn_of_wpIn (F := Fence.wide) trivial ?_
  show assign.wpIn (Fc ⟨some l⟩) 0 P _ { tmps := (r.params.zip vs.toArray).foldl (fun tmps (x : Tmp × Value) => tmps.setIfInBounds x.1 x.2) r.tmps, defers := [] } w
  rw [e0]
  refine wpIn_mono (h g _ w ha hs) ?_; rintro e a1 w1 ⟨_, ρ1, A1, ha1, hs1, hq⟩
  cases e with
  | normal =>
    obtain ⟨B, hB, hbody⟩ := hq
    have hs1 := hB g w1 hs1
    obtain ⟨r1, ⟨g1, g2, g3, g4, g5, g6⟩, hs1'⟩ := lp_iff.1 hs1
    have hl1 : w1.heap[l]? = some (.loop r1) := has_here g w1 hs1'
    refine ⟨_, run_beginRound hl1 g1, ?_⟩
    have hs2 := sat_putObj (o' := .loop { r1 with state := .busy }) hs1'
    have hs3 : sat g (w1.putObj l (.loop { r1 with state := .busy })) (B * Lp l .busy none n ρ ps assign body) := lp_iff.2 ⟨{ r1 with state := .busy }, ⟨rfl, g2, g3, g4, g5, g6⟩, hs2⟩
    refine wpIn_mono (show body.wpIn (Fc ⟨some l⟩) 0 P _ a1 _ from hbody g a1 _ ha1 hs3) ?_; rintro e a3 w3 ⟨_, ρ3, A3, ha3, hs4, hq3⟩
    have fin : ∀ (jump : Option Code), (∃ C, (∀ g w, sat g w A3 → sat g w (C * Lp l .busy none n ρ ps assign body)) ∧ Q (.bool jump.isNone) jump C) →
        ∃ v w', (Instr.endRound l jump).run P w3 = .ok v w' ∧ ∃ v' B', (Ending.returned v : Ending) = .returned v' ∧ (∃ C j, Q v' j C ∧ B' = C * Lp l (stOf j) j n ρ ps assign body) ∧ sat g w' B' := by
      rintro jump ⟨C, hC, hQ⟩
      have hs4 := hC g w3 hs4
      obtain ⟨r3, ⟨k1, k2, k3, k4, k5, k6⟩, hs5⟩ := lp_iff.1 hs4
      have hl3 : w3.heap[l]? = some (.loop r3) := has_here g w3 hs5
      refine ⟨_, _, run_endRound jump hl3, _, _, rfl, ⟨C, jump, hQ, rfl⟩, ?_⟩; refine lp_iff.2 ⟨{ r3 with state := if jump.isNone then .ready else .done, pending := jump }, ⟨?_, rfl, k3, k4, k5, k6⟩, sat_putObj hs5⟩
      cases jump <;> rfl
    cases e with
    | normal => exact fin none hq3
    | ret => exact fin (some .ret) hq3
    | exit id => exact fin (some (.exit id)) hq3
    | _ => exact hq3.elim
  | _ => exact hq.elim
/-! ## The statement -/
/-- What is asked when the function that was ranged over has returned. -/
def jmpQ (Q : Post) (ρ : Env) (A : SP) : Option Code → Prop
  | none => Q .normal ρ A
  | some .ret => Q .ret ρ A
  | some (.exit id) => Q (.exit id) ρ A
  | _ => False
/-- **for .. := range g { .. }, in a function's own frame.** -/
theorem tc_range {P : Program} {n : Nat} {Q : Post} {ρ : Env} {A : SP} {x : Operand} {ps : Array Tmp} {assign body : Code} {gf : FuncId} {fs cs : List Value} (hx : ev n ρ x = .func (.func gf) fs.toArray cs.toArray) (hb : bodyB P gf = true)
    (h : ∀ r l : Nat, Fn P gf (fs ++ [Value.func (.yield l) #[] #[]] ++ cs).toArray (A * pt r mkO * Lp l .ready none n ρ ps assign body) fun _ B =>
      ∃ st j C, st ≠ .busy ∧ B = C * pt r mkO * Lp l st j n ρ ps assign body ∧ jmpQ Q (upd ρ n (mkv (r :: mks (ρ n)))) (C * pt r mkO) j) : @TC ⟨none⟩ P n (.rangeFunc x ps assign body) Q ρ A := fun g a w ha hs => by
  refine wpIn_rangeFunc fun fn _ => ?_
  obtain ⟨rec, hrec⟩ : ∃ rec : Loop, rec = { state := .ready, pending := none, fn, tmps := a.tmps, params := ps, assign, body, defers := w.heap.size } := ⟨_, rfl⟩
  obtain ⟨W1, hW1⟩ : ∃ W1, (w.alloc (.deferred (some []))).alloc (.loop rec) = W1 := ⟨_, rfl⟩
  have hs1 : sat g W1 (A * pt w.heap.size mkO * Lp (w.heap.size + 1) .ready none n ρ ps assign body) := by
    rw [← hW1]
    have hsz : (w.alloc (.deferred (some []))).heap.size = w.heap.size + 1 := by simp
    have := (hs.alloc (.deferred (some []))).alloc (.loop rec)
    rw [hsz] at this
    exact lp_iff.2 ⟨rec, by rw [hrec]; exact ⟨rfl, rfl, rfl, rfl, rfl, rfl, ha.sz, ha.ev⟩, this⟩
  refine ⟨w.heap.size + 1, [mark w.heap.size], W1, { target := .fn (.func gf) cs.toArray, args := fs.toArray ++ #[.func (.yield (w.heap.size + 1)) #[] #[]] }, W1, gf,
    (fs ++ [Value.func (.yield (w.heap.size + 1)) #[] #[]] ++ cs).toArray, W1, ?_, ?_, fun _ _ => trivial, ?_, fun h => (by cases h), ?_⟩
  · rw [← hW1, hrec]; exact run_enterLoop_outer _ _ _ _ _
  · simp only [resolve, ha.eval, hx]
    simp [Deferred.ofValue, ev, pure, bind, Sem.bind]
  · simp only [invoke]
    rw [run_callFunc hb]; simp
  · have hc := h w.heap.size (w.heap.size + 1) g W1 hs1
    refine CallsIn.mono (show CallsIn (Fc ⟨none⟩) (0 - 1) P gf _ W1 _ from callsIn_wide.2 hc) ?_; rintro e w3 ⟨v, B, rfl, ⟨st, j, C, hst, rfl, hj⟩, hs3⟩
    obtain ⟨r3, ⟨k1, k2, k3, k4, k5, k6⟩, hs5⟩ := lp_iff.1 hs3
    have hl3 : w3.heap[w.heap.size + 1]? = some (.loop r3) := has_here g w3 hs5
    refine ⟨_, _, run_endLoop hl3 (by rw [k1]; exact hst), ?_⟩
    have hs6 := (sat_putObj (o' := .loop { r3 with state := .exhausted }) hs5).left
    have ha6 : Agr n (upd ρ n (mkv (w.heap.size :: mks (ρ n)))) { a with defers := [mark w.heap.size] ++ a.defers } := by
      refine ⟨?_, ha.sz, fun t ht => ?_⟩
      · show [mark w.heap.size] ++ a.defers = _
        have : upd ρ n (mkv (w.heap.size :: mks (ρ n))) n = mkv (w.heap.size :: mks (ρ n)) := by simp [upd]
        rw [this, mks_mkv, ha.df]; rfl
      · have : Nat.beq t n = false := by
          cases hb : Nat.beq t n with
          | false => rfl
          | true => have := Nat.eq_of_beq_eq_true hb; omega
        simp only [upd, this, cond_false]; exact ha.ev t ht
    rw [k2] at hs6 ⊢
    cases j with
    | none => exact ⟨rfl, _, _, ha6, hs6, hj⟩
    | some c =>
      cases c with
      | ret => exact wpIn_ret ⟨rfl, _, _, ha6, hs6, hj⟩
      | exit id => exact wpIn_exit ⟨rfl, _, _, ha6, hs6, hj⟩
      | _ => exact hj.elim
/-! ## Iterators -/
/-- What an iterator promises: it calls yield with val 0, val 1, .. up to N of them, till a round says no. K: what it holds of memory itself; a round leaves alone whatever else there is. -/
def It (P : Program) (gf : FuncId) (fs cs : List Value) (K : SP) (N : Nat) (val : Nat → List Value) : Prop :=
  ∀ (l : Nat) (J : Nat → SP → Prop) (X : SP → Prop) (S0 : SP), J 0 S0 →
    (∀ F i S, i < N → J i S → Yd P l (val i).toArray (F * S) fun v B => ∃ (b : Bool) (S' : SP), v = .bool b ∧ (b = true → J (i + 1) S') ∧ (b = false → X S') ∧ B = F * S') →
    Fn P gf (fs ++ [Value.func (.yield l) #[] #[]] ++ cs).toArray (S0 * K) fun r B => r = .tuple #[] ∧ ((∃ S, J N S ∧ B = S * K) ∨ ∃ S, X S ∧ B = S * K)
section
variable (l n : Nat) (ρ0 : Env) (ps : Array Tmp) (assign body : Code) (F : SP)
def rndI (I1 : SP → Prop) (X : Code → SP → Prop) : Post
  | .normal, _, A => ∃ S, (∀ g w, sat g w A → sat g w (F * S)) ∧ I1 S
  | .ret, _, A => ∃ S, (∀ g w, sat g w A → sat g w (F * S)) ∧ X .ret S
  | .exit id, _, A => ∃ S, (∀ g w, sat g w A → sat g w (F * S)) ∧ X (.exit id) S
  | _, _, _ => False
def asgI (P : Program) (I1 : SP → Prop) (X : Code → SP → Prop) : Post
  | .normal, ρ, A => ∃ S, (∀ g w, sat g w A → sat g w (F * S)) ∧ ∀ F, @TC ⟨some l⟩ P n body (rndI F I1 X) ρ (F * S)
  | _, _, _ => False
end
/-- **for .. := range g { .. }, over an iterator that has its contract.** -/
theorem tc_rangeI {P : Program} {n N : Nat} {Q : Post} {ρ : Env} {A A0 K : SP} {x : Operand} {ps : Array Tmp} {assign body : Code} {gf : FuncId} {fs cs : List Value} {val : Nat → List Value} (I : Nat → SP → Prop) (X : Code → SP → Prop)
    (hx : ev n ρ x = .func (.func gf) fs.toArray cs.toArray) (hb : bodyB P gf = true) (hit : It P gf fs cs K N val) (hps : ∀ i, (val i).length = ps.size) (hm : mks (ρ n) = []) (hA : ∀ g w, sat g w A → sat g w (A0 * K)) (h0 : I 0 A0)
    (round : ∀ l F i S, i < N → I i S → @TC ⟨some l⟩ P n assign (asgI l n body F P (I (i + 1)) X) (putL n ρ ps.toList (val i)) (F * S))
    (done : ∀ r S, I N S → Q .normal (upd ρ n (mkv [r])) (S * K * pt r mkO)) (jump : ∀ r j S, X j S → jmpQ Q (upd ρ n (mkv [r])) (S * K * pt r mkO) (some j)) : @TC ⟨none⟩ P n (.rangeFunc x ps assign body) Q ρ A := by
  refine tc_pre hA (tc_range hx hb fun r l => ?_)
  rw [hm]
  have hY := hit l (fun i S => ∃ S1, S = S1 * pt r mkO * Lp l .ready none n ρ ps assign body ∧ I i S1) (fun S => ∃ j S1, S = S1 * pt r mkO * Lp l .done (some j) n ρ ps assign body ∧ X j S1) _ ⟨A0, rfl, h0⟩ ?_
  · refine Fn.mono (hY.pre fun _ _ h => (show A0 * K * pt r mkO * Lp l .ready none n ρ ps assign body = A0 * pt r mkO * Lp l .ready none n ρ ps assign body * K by ac_rfl) ▸ h) ?_
    rintro v B ⟨_, ⟨_, ⟨S1, rfl, hI⟩, rfl⟩ | ⟨_, ⟨j, S1, rfl, hX⟩, rfl⟩⟩
    · exact ⟨.ready, none, S1 * K, by simp, by ac_rfl, done r S1 hI⟩
    · exact ⟨.done, some j, S1 * K, by simp, by ac_rfl, jump r j S1 hX⟩
  · rintro F i _ hi ⟨S1, rfl, hI⟩
    have e1 : ∀ (S L : SP), F * S * pt r mkO * L = F * pt r mkO * L * S := fun S L => by ac_rfl
    have hb := yd_body (P := P) (l := l) (n := n) (ρ := ρ) (ps := ps) (assign := assign) (body := body) (A := F * S1 * pt r mkO) (vs := val i)
      (Q := fun v j C => ∃ S2, C = F * S2 * pt r mkO ∧ ((j = none ∧ v = .bool true ∧ I (i + 1) S2) ∨ ∃ c, j = some c ∧ v = .bool false ∧ X c S2)) (hps i) hm
      (by
        rw [e1]
        refine tc_imp (round l (F * pt r mkO * Lp l .ready none n ρ ps assign body) i S1 hi hI) fun e ρ' A' hq => ?_
        cases e with
        | normal =>
          obtain ⟨S, hS, hbody⟩ := hq
          refine ⟨F * S * pt r mkO, fun g w h => by rw [e1]; exact hS g w h, ?_⟩
          rw [e1]
          refine tc_imp (hbody (F * pt r mkO * Lp l .busy none n ρ ps assign body)) fun e ρ2 A2 hq => ?_
          cases e with
          | normal => obtain ⟨S2, h2, hI2⟩ := hq; exact ⟨F * S2 * pt r mkO, fun g w h => by rw [e1]; exact h2 g w h, S2, rfl, .inl ⟨rfl, rfl, hI2⟩⟩
          | ret => obtain ⟨S2, h2, hI2⟩ := hq; exact ⟨F * S2 * pt r mkO, fun g w h => by rw [e1]; exact h2 g w h, S2, rfl, .inr ⟨_, rfl, rfl, hI2⟩⟩
          | exit id => obtain ⟨S2, h2, hI2⟩ := hq; exact ⟨F * S2 * pt r mkO, fun g w h => by rw [e1]; exact h2 g w h, S2, rfl, .inr ⟨_, rfl, rfl, hI2⟩⟩
          | _ => exact hq.elim
        | _ => exact hq.elim)
    refine (hb.pre fun _ _ h => (show F * (S1 * pt r mkO * Lp l .ready none n ρ ps assign body) = F * S1 * pt r mkO * Lp l .ready none n ρ ps assign body by ac_rfl) ▸ h).mono ?_; rintro v B ⟨C, j, ⟨S2, rfl, ⟨rfl, rfl, hI2⟩ | ⟨c, rfl, rfl, hX⟩⟩, rfl⟩
    · exact ⟨true, _, rfl, fun _ => ⟨S2, rfl, hI2⟩, fun e => (by cases e), by show _ = F * (S2 * pt r mkO * Lp l (stOf none) none n ρ ps assign body); ac_rfl⟩
    · exact ⟨false, _, rfl, fun e => (by cases e), fun _ => ⟨c, S2, rfl, hX⟩, by show _ = F * (S2 * pt r mkO * Lp l (stOf (some c)) (some c) n ρ ps assign body); ac_rfl⟩
/-- What a round of the caller's does, in the iterator's own order of things. -/
theorem yd_b {P : Program} {l : Nat} {args : Array Value} {J X : SP → Prop} {F S A' : SP} {G : SP → SP} (h : Yd P l args (F * S) fun v B => ∃ (b : Bool) (S' : SP), v = .bool b ∧ (b = true → J S') ∧ (b = false → X S') ∧ B = F * S') (hA : A' = F * S) (hk : ∀ S : SP, F * S = G S) :
    Yd P l args A' fun v B => ∃ (b : Bool) (S' : SP), v = .bool b ∧ (b = true → J S') ∧ (b = false → X S') ∧ B = G S' := by
  subst hA
  refine h.mono fun v B ⟨b, S', e1, e2, e3, e4⟩ => ⟨b, S', e1, e2, e3, ?_⟩
  rw [e4, hk]
theorem jmp_r {Q : Post} {ρ : Env} {A : SP} (h : Q .ret ρ A) : jmpQ Q ρ A (some .ret) := h
theorem mk1 {B : SP} {r : Nat} {g : Gh} {w : World} (h : sat g w (B * pt r mkO)) : sat g w (B * Mk [r]) := by
  show sat g w (B * (emp * pt r mkO)); rw [emp_star]; exact h
theorem mk0 {B : SP} {g : Gh} {w : World} (h : sat g w B) : sat g w (B * Mk []) := by
  show sat g w (B * emp); rw [star_emp]; exact h
end Go.Vl.Rg

set_option linter.unusedVariables false
set_option linter.unusedSimpArgs false
namespace Go.Vl
open Go Go.Proofs
/-- Lines are flushed, one behind the other; then the fence. -/
def flF : Nat → Nat → DevS → Int × DevS
  | 0, _, s => fe s
  | k + 1, q, s => if (fl1 ((q * 64 : Nat) : Int) s).1 ≠ 0 then fl1 ((q * 64 : Nat) : Int) s else flF k (q + 1) (fl1 ((q * 64 : Nat) : Int) s).2
/-- A range is made to last. -/
def lastS (p m : Nat) (s : DevS) : Int × DevS := flF ((p + m - 1) / 64 - p / 64 + 1) (p / 64) s
end Go.Vl

set_option linter.unusedVariables false
set_option linter.unusedSimpArgs false
namespace Go.Vl
open Go Go.Proofs
def insB (n : Nat) (p m : Int) : Bool := decide (0 ≤ p ∧ 0 ≤ m ∧ p ≤ (n : Int) * 64 ∧ m ≤ (n : Int) * 64 - p)
/-- What Range, Bytes, Publish answer, and the device behind them. -/
def rangeP (p m : Int) (s : DevS) : Int × DevS := if s.off = true then (5, s) else if m < 1 then (0, s) else if rdy s.ls.length false p m ≠ 0 then (6, s) else lastS p.toNat m.toNat s
def bytesP (p : Int) (b : List Nat) (s : DevS) : Int × DevS := if s.off = true then (5, s) else if b = [] then (0, s) else if (sto p b s).1 ≠ 0 then sto p b s else lastS p.toNat b.length (sto p b s).2
def pubP (p : Int) (v : Nat) (s : DevS) : Int × DevS := if (st8 p v s).1 ≠ 0 then st8 p v s else lastS p.toNat 8 (st8 p v s).2
/-- A number of n bytes that is told. -/
def loadP (p : Int) (n : Nat) (s : DevS) : Nat × Int := if rdy s.ls.length s.off p n ≠ 0 then (0, rdy s.ls.length s.off p n) else (nm (((imgS s).drop p.toNat).take n), 0)
def wordP (p : Int) (s : DevS) : Nat × Int := if s.off = true then (0, 5) else if p % 8 ≠ 0 then (0, 6) else loadP p 8 s
end Go.Vl

set_option linter.unusedVariables false
set_option linter.unusedSimpArgs false
namespace Go.Vl
open Go Go.Proofs
/-- v is no device: nil, or one that no call has made. -/
def NoD (A : SP) (v : Value) : Prop := v = .pointer none ∨ ∃ b, v = .pointer (some ⟨b, 0, none⟩) ∧ Cell A b 0 (.slice none 0 0)
theorem NoD.left {A X : SP} {v : Value} (h : NoD A v) : NoD (A * X) v := h.imp id fun ⟨b, e, hc⟩ => ⟨b, e, hc.left⟩
end Go.Vl

set_option linter.unusedVariables false
set_option linter.unusedSimpArgs false
namespace Go.Vl
open Go Go.Proofs
theorem Put32_c {A : SP} {a : Option Addr} {c m : Nat} {xs : List Nat} {v : Nat} (hr : Rs A a (bys xs) := by repeat (first | assumption | with_reducible exact rs_sl | with_reducible exact rs_pt0 | exact rs_none | apply Rs.left)) (hm : xs.length = m := by first | assumption | rfl) (hv : v < 4294967296 := by omega) (hl : m ≤ 1099511627776 := by omega) :
    Fn Try.prog 46 #[.slice a m c, .int .u32 (v : Nat)] A (fun r B => ∃ a' c', r = .slice a' (m + 4) c' ∧ m + 4 ≤ c' ∧ B = A * Sl 1 (.slice a' (m + 4) c') (m + 4) (bys (xs ++ le 4 v))) := by
  subst hm; exact fn_rs hr fun hr => fn_sl ((Put32_f A a c xs v hr hv hl).mono fun _ _ ⟨u, e, h⟩ => by rw [e]; exact h)
theorem Take32_c {A : SP} {a : Option Addr} {c m : Nat} {xs : List Nat} {p : Nat} (hr : Rs A a (bys xs) := by repeat (first | assumption | with_reducible exact rs_sl | with_reducible exact rs_pt0 | exact rs_none | apply Rs.left)) (hb : ∀ x ∈ xs, x < 256 := by assumption) (hm : xs.length = m := by first | assumption | rfl) (hp : p + 4 ≤ m := by omega) (hl : m ≤ 1099511627776 := by omega) :
    Fn Try.prog 52 #[.slice a m c, .int .i64 (p : Nat)] A (fun r B => r = .tuple #[.int .u32 ((nm ((xs.drop p).take 4) : Nat) : Int), .int .i64 0] ∧ A = B) := by
  subst hm; exact fn_rs hr fun hr => Take32_f A a c xs p hb hr hp hl
end Go.Vl

set_option linter.unusedVariables false
set_option linter.unusedSimpArgs false
namespace Go.Vl
open Go Go.Proofs
structure Ed where
  at_ : Int
  out : Int
  inn : Int
def Ed.cells (e : Ed) : List Value := [.int .i64 e.at_, .int .i64 e.out, .int .i64 e.inn]
structure EdW (e : Ed) : Prop where
  a : -9223372036854775808 ≤ e.at_ ∧ e.at_ ≤ 9223372036854775807
  o : -9223372036854775808 ≤ e.out ∧ e.out ≤ 9223372036854775807
  i : -9223372036854775808 ≤ e.inn ∧ e.inn ≤ 9223372036854775807
structure MkW (m : Mk) : Prop where
  id : m.id < 4294967296
  at_ : -9223372036854775808 ≤ m.at_ ∧ m.at_ ≤ 9223372036854775807
  gr : m.gr < 256
def edMay (e : Ed) : Bool := decide (0 ≤ e.at_ ∧ 0 ≤ e.out ∧ 0 ≤ e.inn ∧ e.out ≤ 9223372036854775807 - e.at_ ∧ e.inn ≤ 9223372036854775807 - e.at_)
theorem edMay_f {e : Ed} (h : ¬ (0 ≤ e.at_ ∧ 0 ≤ e.out ∧ 0 ≤ e.inn ∧ e.out ≤ 9223372036854775807 - e.at_ ∧ e.inn ≤ 9223372036854775807 - e.at_)) : edMay e = false := decide_eq_false h
/-- Where a place goes. -/
def goneS (e : Ed) (p : Int) (goes : Bool) : Option Int := if p < e.at_ then some p else if e.at_ + e.out < p then (if 9223372036854775807 - e.inn < p - e.out then none else some (p - e.out + e.inn)) else some (if goes then e.at_ + e.inn else e.at_)
def gnM (e : Ed) (x : Mk) : Option Int := goneS e x.at_ (decide (x.gr = 1))
def mvM (e : Ed) (x : Mk) : Mk := { x with at_ := (gnM e x).getD 0 }
def shL (e : Ed) (s : List Mk) (i : Nat) : List Mk := (s.take i).map (mvM e) ++ s.drop i
theorem shL_zero (e : Ed) (s : List Mk) : shL e s 0 = s := by simp [shL]
theorem shL_len {e : Ed} {s : List Mk} {i : Nat} (h : i ≤ s.length) : (shL e s i).length = s.length := by unfold shL; simp only [List.length_append, List.length_map, List.length_take, List.length_drop]; omega
theorem shL_at {e : Ed} {s : List Mk} {i : Nat} (h : i < s.length) : (shL e s i)[i]'(by rw [shL_len (by omega)]; exact h) = s[i] := by
  have h1 : (shL e s i)[i]? = some s[i] := by
    unfold shL
    rw [List.getElem?_append_right (by simp only [List.length_map, List.length_take]; omega)]
    simp only [List.length_map, List.length_take]
    rw [show i - min i s.length = 0 by omega, List.getElem?_drop, Nat.add_zero, List.getElem?_eq_getElem h]
  rw [List.getElem?_eq_getElem (by rw [shL_len (by omega)]; exact h)] at h1
  exact Option.some.inj h1
theorem shL_set {e : Ed} {s : List Mk} {i : Nat} (h : i < s.length) : (shL e s i).set i (mvM e s[i]) = shL e s (i + 1) := by
  unfold shL
  rw [List.set_append_right _ _ (by simp only [List.length_map, List.length_take]; omega)]
  simp only [List.length_map, List.length_take]
  rw [show i - min i s.length = 0 by omega, List.drop_eq_getElem_cons h, List.set_cons_zero, List.take_succ_eq_append_getElem h, List.map_append, List.append_assoc]; rfl
theorem shL_all {e : Ed} {s : List Mk} : shL e s s.length = s.map (mvM e) := by simp [shL]
theorem mcs_s1 {l : List Mk} {j : Nat} {v : Int} (h : j < l.length) : (mcs l).set (j * 3 + 1) (.int .i64 v) = mcs (l.set j { l[j] with at_ := v }) := fm_set (f := Mk.cells) (k := 3) (j := 1) (fun _ _ => rfl) h (by decide) rfl rfl
theorem mv_of {e : Ed} {x : Mk} {v : Int} (h : gnM e x = some v) : mvM e x = { x with at_ := v } := by unfold mvM; rw [h]; rfl
theorem shc1 {e : Ed} {s : List Mk} {i : Nat} {x : Mk} {v : Int} (hi : i < s.length) (hx : s[i] = x) (hg : gnM e x = some v) : shL e s (i + 1) = (shL e s i).set i { (shL e s i)[i]'(by rw [shL_len (by omega)]; exact hi) with at_ := v } := by
  rw [← shL_set hi, hx, mv_of hg, shL_at hi, hx]
theorem shc0 {e : Ed} {s : List Mk} {i : Nat} {x : Mk} (hi : i < s.length) (hx : s[i] = x) (hg : gnM e x = some x.at_) : shL e s (i + 1) = shL e s i := by
  rw [shc1 hi hx hg]
  have h1 := shL_at (e := e) hi
  have : { (shL e s i)[i]'(by rw [shL_len (by omega)]; exact hi) with at_ := x.at_ } = (shL e s i)[i]'(by rw [shL_len (by omega)]; exact hi) := by rw [h1, hx]
  rw [this]; exact set_getElem _
theorem shc2 {e : Ed} {s : List Mk} {i : Nat} {x : Mk} {u v : Int} (hi : i < s.length) (hx : s[i] = x) (hg : gnM e x = some v) : shL e s (i + 1) = ((shL e s i).set i { (shL e s i)[i]'(by rw [shL_len (by omega)]; exact hi) with at_ := u }).set i { ((shL e s i).set i { (shL e s i)[i]'(by rw [shL_len (by omega)]; exact hi) with at_ := u })[i]'(by rw [List.length_set, shL_len (by omega)]; exact hi) with at_ := v } := by
  rw [shc1 hi hx hg, List.set_set, List.getElem_set_self]
def shiftS (l : List Mk) (e : Ed) : List Mk × Int := if mayS l ≠ 0 then ([], mayS l) else if edMay e = false then ([], 2) else if (srt (ltc cId) l).all (fun x => (gnM e x).isSome) = true then ((srt (ltc cId) l).map (mvM e), 0) else ([], 2)
attribute [local irreducible] Sl pt ro SlB
set_option maxRecDepth 20000 in
set_option maxHeartbeats 2000000 in
theorem Shift_c {A : SP} {a : Option Addr} {c n : Nat} {l : List Mk} {e : Ed} (hr : Rs A a (mcs l) := by repeat (first | assumption | with_reducible exact rs_sl | with_reducible exact rs_pt0 | exact rs_none | apply Rs.left)) (hm : l.length = n := by first | assumption | rfl) (hW : ∀ x ∈ l, MkW x := by assumption) (hE : EdW e := by assumption) (hs : n ≤ 5864062014800 := by omega) :
    Fn Try.prog 12 #[.slice a n c, .agg e.cells.toArray] (A) (fun r B => ∃ a2 c2, r = .tuple #[.slice a2 (shiftS l e).1.length c2, .int .i64 (shiftS l e).2] ∧ (shiftS l e).1.length ≤ c2 ∧ B = A * Sl 3 (.slice a2 (shiftS l e).1.length c2) (shiftS l e).1.length (mcs (shiftS l e).1)) := by
  refine fn_enterW (args := [.slice a n c, .agg e.cells.toArray]) Try.func12 rfl Try.ntmps12 (by simp) ?_
  have hEa := hE.a
  have hEo := hE.o
  have hEi := hE.i
  refine sr ?_; refine tl_x rfl (o_box rfl rfl) ?_; rintro _ _ ⟨b3, rfl, rfl⟩; refine tla ?_; refine tla ?_; refine nq ?_; refine tc_seq ?_; refine sr ?_; refine tlm ?_; refine tl_c rfl (o_call bd32 rfl (may_c (l := l))) ?_; rintro _ _ ⟨rfl, rfl⟩; refine tla ?_; refine nq ?_; refine sr ?_; refine tlm ?_; refine tv (o_nei rfl rfl) ?_; refine nq ?_; refine tc_cond rfl (fun h => ?_) (fun h => ?_)
  · have hne : mayS l ≠ 0 := by simpa using h
    refine sr ?_; refine tlm ?_; refine tla ?_; refine tla ?_; refine nq ?_; refine tc_ret ?_; refine q_then_r ?_
    have e0 : shiftS l e = ([], mayS l) := by unfold shiftS; rw [if_pos hne]
    rw [e0]
    exact ⟨.tuple #[.slice none 0 0, .int .i64 (mayS l)], A * Sl 3 (.slice none 0 0) 0 [], res2 rfl rfl rfl, fun _ _ h => sl_nil (Dr.sat (by repeat (first | with_reducible exact dr_refl | apply dr_keep | apply dr_drop)) _ _ h), none, 0, rfl, Nat.le_refl _, rfl⟩
  · have hne : mayS l = 0 := by simpa using h
    have h32 := (may_zero hne).1
    have hok := (may_zero hne).2.1
    refine tc_skip ?_; refine q_then_n ?_; refine tc_seq ?_; refine tc_seq ?_; refine tc_cut (fun ρ BB => ∃ (bb : Bool), (bb = !edMay e) ∧ ρ 43 = .bool bb ∧ ρ 0 = .slice a n c ∧ ρ 3 = .pointer (some ⟨b3, 0, none⟩) ∧ BB = A * pt b3 (cl e.cells 24)) ?_ ?_
    · skip
      refine tc_reg ?_; refine tv (o_fieldAddr (o := 0) Try.underlying24 rfl rfl sz3 rfl) ?_; refine tv (by first | exact o_load p3 rfl (by repeat (first | with_reducible exact has_here | with_reducible exact has_pt | apply has_left)) rfl | exact o_loadC p3 rfl (by assumption)) ?_; refine tv (o_lss rfl rfl) ?_; refine tlm ?_; refine tl_bool (d := 18) rfl (fun h => ?_) (fun h => ?_)
      · have g18 : (e.at_ < 0) := by simpa using h
        refine tk ?_; refine tk ?_; refine tk ?_; refine tv (o_pick_t rfl (by conv => lhs; whnf)) ?_; refine tlm ?_; refine tk ?_; refine tk ?_; refine tk ?_; refine tv (o_pick_t rfl (by conv => lhs; whnf)) ?_; refine tlm ?_; refine tk ?_; refine tk ?_; refine tk ?_; refine tk ?_; refine tk ?_; refine tk ?_; refine tv (o_pick_t rfl (by conv => lhs; whnf)) ?_; refine tlm ?_; refine tk ?_; refine tk ?_; refine tk ?_; refine tk ?_; refine tk ?_; refine tk ?_; refine tv (o_pick_t rfl (by conv => lhs; whnf)) ?_; refine tl_nil ?_; exact ⟨_, by first | (rw [edMay_f (by omega)]; rfl) | (show decide (_ < _) = _; unfold edMay; rw [Bool.eq_iff_iff]; simp; omega), rfl, rfl, rfl, rfl⟩
      · have g18 : ¬ (e.at_ < 0) := by simpa using h
        refine tv (o_fieldAddr (o := 1) Try.underlying24 rfl rfl sz3 rfl) ?_; refine tv (by first | exact o_load p3 rfl (by repeat (first | with_reducible exact has_here | with_reducible exact has_pt | apply has_left)) rfl | exact o_loadC p3 rfl (by assumption)) ?_; refine tv (o_lss rfl rfl) ?_; refine tv (o_pick_f rfl (by conv => lhs; whnf)) ?_; refine tlm ?_; refine tl_bool (d := 23) rfl (fun h => ?_) (fun h => ?_)
        · have g23 : (e.out < 0) := by simpa using h
          refine tk ?_; refine tk ?_; refine tk ?_; refine tv (o_pick_t rfl (by conv => lhs; whnf)) ?_; refine tlm ?_; refine tk ?_; refine tk ?_; refine tk ?_; refine tk ?_; refine tk ?_; refine tk ?_; refine tv (o_pick_t rfl (by conv => lhs; whnf)) ?_; refine tlm ?_; refine tk ?_; refine tk ?_; refine tk ?_; refine tk ?_; refine tk ?_; refine tk ?_; refine tv (o_pick_t rfl (by conv => lhs; whnf)) ?_; refine tl_nil ?_; exact ⟨_, by first | (rw [edMay_f (by omega)]; rfl) | (show decide (_ < _) = _; unfold edMay; rw [Bool.eq_iff_iff]; simp; omega), rfl, rfl, rfl, rfl⟩
        · have g23 : ¬ (e.out < 0) := by simpa using h
          refine tv (o_fieldAddr (o := 2) Try.underlying24 rfl rfl sz3 rfl) ?_; refine tv (by first | exact o_load p3 rfl (by repeat (first | with_reducible exact has_here | with_reducible exact has_pt | apply has_left)) rfl | exact o_loadC p3 rfl (by assumption)) ?_; refine tv (o_lss rfl rfl) ?_; refine tv (o_pick_f rfl (by conv => lhs; whnf)) ?_; refine tlm ?_; refine tl_bool (d := 28) rfl (fun h => ?_) (fun h => ?_)
          · have g28 : (e.inn < 0) := by simpa using h
            refine tk ?_; refine tk ?_; refine tk ?_; refine tk ?_; refine tk ?_; refine tk ?_; refine tv (o_pick_t rfl (by conv => lhs; whnf)) ?_; refine tlm ?_; refine tk ?_; refine tk ?_; refine tk ?_; refine tk ?_; refine tk ?_; refine tk ?_; refine tv (o_pick_t rfl (by conv => lhs; whnf)) ?_; refine tl_nil ?_; exact ⟨_, by first | (rw [edMay_f (by omega)]; rfl) | (show decide (_ < _) = _; unfold edMay; rw [Bool.eq_iff_iff]; simp; omega), rfl, rfl, rfl, rfl⟩
          · have g28 : ¬ (e.inn < 0) := by simpa using h
            refine tv (o_fieldAddr (o := 1) Try.underlying24 rfl rfl sz3 rfl) ?_; refine tv (by first | exact o_load p3 rfl (by repeat (first | with_reducible exact has_here | with_reducible exact has_pt | apply has_left)) rfl | exact o_loadC p3 rfl (by assumption)) ?_; refine tv (o_fieldAddr (o := 0) Try.underlying24 rfl rfl sz3 rfl) ?_; refine tv (by first | exact o_load p3 rfl (by repeat (first | with_reducible exact has_here | with_reducible exact has_pt | apply has_left)) rfl | exact o_loadC p3 rfl (by assumption)) ?_; refine tv (o_subI rfl rfl (by omega)) ?_; refine tv (o_gtr rfl rfl) ?_; refine tv (o_pick_f rfl (by conv => lhs; whnf)) ?_; refine tlm ?_; refine tl_bool (d := 36) rfl (fun h => ?_) (fun h => ?_)
            · have g36 : (9223372036854775807 - e.at_ < e.out) := by simpa using h
              refine tk ?_; refine tk ?_; refine tk ?_; refine tk ?_; refine tk ?_; refine tk ?_; refine tv (o_pick_t rfl (by conv => lhs; whnf)) ?_; refine tl_nil ?_; exact ⟨_, by first | (rw [edMay_f (by omega)]; rfl) | (show decide (_ < _) = _; unfold edMay; rw [Bool.eq_iff_iff]; simp; omega), rfl, rfl, rfl, rfl⟩
            · have g36 : ¬ (9223372036854775807 - e.at_ < e.out) := by simpa using h
              refine tv (o_fieldAddr (o := 2) Try.underlying24 rfl rfl sz3 rfl) ?_; refine tv (by first | exact o_load p3 rfl (by repeat (first | with_reducible exact has_here | with_reducible exact has_pt | apply has_left)) rfl | exact o_loadC p3 rfl (by assumption)) ?_; refine tv (o_fieldAddr (o := 0) Try.underlying24 rfl rfl sz3 rfl) ?_; refine tv (by first | exact o_load p3 rfl (by repeat (first | with_reducible exact has_here | with_reducible exact has_pt | apply has_left)) rfl | exact o_loadC p3 rfl (by assumption)) ?_; refine tv (o_subI rfl rfl (by omega)) ?_; refine tv (o_gtr rfl rfl) ?_; refine tv (o_pick_f rfl (by conv => lhs; whnf)) ?_; refine tl_nil ?_; exact ⟨_, by first | (rw [edMay_f (by omega)]; rfl) | (show decide (_ < _) = _; unfold edMay; rw [Bool.eq_iff_iff]; simp; omega), rfl, rfl, rfl, rfl⟩
    · intro ρ B hI
      obtain ⟨bb, hbb0, hE43, hE0, hE3, rfl⟩ := hI
      refine q_then_n ?_; refine tc_env (d := 43) hE43 ?_; refine tc_env (d := 0) hE0 ?_; refine tc_env (d := 3) hE3 ?_
      clear hE43 hE0 hE3
      refine tc_cond rfl (fun h => ?_) (fun h => ?_)
      · have hem : edMay e = false := by rw [h] at hbb0; simpa using hbb0
        refine sr ?_; refine tla ?_; refine tla ?_; refine nq ?_; refine tc_ret ?_; refine q_then_r ?_
        have e0 : shiftS l e = ([], 2) := by unfold shiftS; rw [if_neg (by simpa using hne), if_pos hem]
        rw [e0]
        exact ⟨.tuple #[.slice none 0 0, .int .i64 (2)], A * Sl 3 (.slice none 0 0) 0 [], res2 rfl rfl rfl, fun _ _ h => sl_nil (Dr.sat (by repeat (first | with_reducible exact dr_refl | apply dr_keep | apply dr_drop)) _ _ h), none, 0, rfl, Nat.le_refl _, rfl⟩
      · have hem : edMay e = true := by rw [h] at hbb0; simpa using hbb0
        have hem2 := of_decide_eq_true hem
        refine tc_skip ?_; refine q_then_n ?_; refine sr ?_; refine tlm ?_; refine tl_c rfl (o_call bd33 rfl (ordered_c (l := l) ordId cId_swo)) ?_; rintro _ _ ⟨a45, c45, rfl, hc45, rfl⟩
        have hsl : (srt (ltc cId) l).length = n := by rw [srt_length cId_swo]; assumption
        refine tla ?_; refine nq ?_; refine tc_seq ?_; refine sr ?_; refine tlm ?_; refine tv (o_len Try.underlying22 rfl) ?_; refine tlm ?_; refine nq ?_; refine tc_block ?_; refine tc_loop (fun kk ρ BB => ∃ (i : Nat), (i ≤ n) ∧ (∀ x ∈ (srt (ltc cId) l).take i, (gnM e x).isSome = true) ∧ kk = n - i ∧ ρ 48 = .int .i64 (i : Nat) ∧ ρ 3 = .pointer (some ⟨b3, 0, none⟩) ∧ ρ 7 = .slice a45 n c45 ∧ ρ 47 = .int .i64 (n : Nat) ∧ BB = A * pt b3 (cl e.cells 24) * Sl 3 (.slice a45 n c45) n (mcs (shL e (srt (ltc cId) l) i))) (m := n - (0)) ?_ ?_
        · exact ⟨0, by omega, by simp, rfl, rfl, rfl, rfl, rfl, by rw [shL_zero]⟩
        · intro k ρ B hI
          obtain ⟨i, hp0, hp1, hkk1, hE48, hE3, hE7, hE47, rfl⟩ := hI
          refine tc_env (d := 48) hE48 ?_; refine tc_env (d := 3) hE3 ?_; refine tc_env (d := 7) hE7 ?_; refine tc_env (d := 47) hE47 ?_
          clear hE48 hE3 hE7 hE47
          refine sr ?_; refine tv (o_lss rfl rfl) ?_; refine nq ?_; refine tc_seq ?_; refine tc_cond rfl (fun h => ?_) (fun h => ?_)
          · have hi : i < (srt (ltc cId) l).length := by first | omega | (simp at h; omega)
            have hsh := shL_len (e := e) (s := srt (ltc cId) l) (i := i) (by omega)
            refine tc_have (fun g w h => nn_sl (by decide) g w h (show 0 < n by omega)) fun ⟨bi, oi, ei⟩ => ?_
            subst ei
            obtain ⟨x, hx⟩ : ∃ x, (srt (ltc cId) l)[i] = x := ⟨_, rfl⟩
            have hxm : x ∈ l := (srt_mem cId_swo).1 (hx ▸ List.getElem_mem hi)
            have hxW := (hW x hxm).at_
            have hxo : okM x = true := List.all_eq_true.1 hok x hxm
            have hx0 : 0 ≤ x.at_ := by unfold okM at hxo; simp only [Bool.and_eq_true, decide_eq_true_eq] at hxo; exact hxo.1
            have hat := shL_at (e := e) hi
            have hf1 : (mcs (shL e (srt (ltc cId) l) i))[i * 3 + 1]? = some (.int .i64 x.at_) := by rw [mcs_f1 (by omega), hat, hx]
            have hf2 : (mcs (shL e (srt (ltc cId) l) i))[i * 3 + 2]? = some (.int .u8 (x.gr : Nat)) := by rw [mcs_f2 (by omega), hat, hx]
            refine tc_skip ?_; refine q_then_n ?_; refine tc_seq ?_; refine tc_block ?_; refine sr ?_; refine tlm ?_; refine tla ?_; refine nq ?_; refine sr ?_; refine tlm ?_; refine tlm ?_; refine tv (o_ixP (a := some ⟨bi, oi, none⟩) Try.underlying22 sz35 rfl rfl (by omega) nn_some) ?_; refine tla ?_; refine nq ?_; refine tc_block ?_; refine tc_seq ?_; refine tc_regq mo (by kernel_rfl) ?_; refine ql_v rfl (o_move (by conv => lhs; whnf)) ?_; refine ql_v rfl (o_ncP (a := some ⟨bi, oi, none⟩) (m := 0) rfl nn_some) ?_; refine ql_v rfl (o_faP (a := some ⟨bi, oi, none⟩) (m := 0) (o := 1) Try.underlying35 rfl rfl sz3 rfl nn_some) ?_; refine ql_v rfl (o_ldP (a := some ⟨bi, oi, none⟩) p3 rfl (by repeat (first | with_reducible exact rs_sl | apply Rs.left)) (hf1)) ?_; refine ql_v rfl (o_fieldAddr (o := 0) Try.underlying24 rfl rfl sz3 rfl) ?_; refine ql_v rfl (by first | exact o_load p3 rfl (by repeat (first | with_reducible exact has_here | with_reducible exact has_pt | apply has_left)) rfl | exact o_loadC p3 rfl (by assumption)) ?_; refine ql_v rfl (o_lss rfl rfl) ?_; refine ql_v rfl (o_assign (by conv => lhs; whnf)) ?_
            refine ql_nil ?_; refine q_then_n ?_; refine tc_cond rfl (fun h => ?_) (fun h => ?_)
            · have c1 : x.at_ < e.at_ := by first | exact of_decide_eq_true h | exact h | simpa using h
              have hg : gnM e x = some x.at_ := by unfold gnM goneS; rw [if_pos c1]
              refine tc_skip ?_; refine q_block_n (q_block_n (q_then_n ?_)); refine tc_reg ?_; refine tv (by first | exact o_addI rfl rfl (by omega) | exact o_add rfl rfl) ?_; refine tlm ?_; refine nq ?_; exact ⟨_, by omega, i + 1, by omega, by rw [List.take_succ_eq_append_getElem (by omega)]; intro y hy; rcases List.mem_append.1 hy with h1 | h1; exact hp1 y h1; rw [List.mem_singleton.1 h1, hx, hg]; rfl, rfl, rfl, rfl, rfl, rfl, by first | (rw [shc0 hi hx hg]; done) | (rw [shc1 hi hx hg]; done) | (rw [shc2 (u := x.at_ - e.out) hi hx hg]; first | done | rfl)⟩
            · have c1 : ¬ x.at_ < e.at_ := by first | exact of_decide_eq_false h | exact h | simpa using h
              refine tc_seq ?_; refine tc_regq mo (by kernel_rfl) ?_; refine ql_v rfl (o_move (by conv => lhs; whnf)) ?_; refine ql_v rfl (o_ncP (a := some ⟨bi, oi, none⟩) (m := 0) rfl nn_some) ?_; refine ql_v rfl (o_faP (a := some ⟨bi, oi, none⟩) (m := 0) (o := 1) Try.underlying35 rfl rfl sz3 rfl nn_some) ?_; refine ql_v rfl (o_ldP (a := some ⟨bi, oi, none⟩) p3 rfl (by repeat (first | with_reducible exact rs_sl | apply Rs.left)) (hf1)) ?_; refine ql_v rfl (o_fieldAddr (o := 0) Try.underlying24 rfl rfl sz3 rfl) ?_; refine ql_v rfl (by first | exact o_load p3 rfl (by repeat (first | with_reducible exact has_here | with_reducible exact has_pt | apply has_left)) rfl | exact o_loadC p3 rfl (by assumption)) ?_; refine ql_v rfl (o_fieldAddr (o := 1) Try.underlying24 rfl rfl sz3 rfl) ?_; refine ql_v rfl (by first | exact o_load p3 rfl (by repeat (first | with_reducible exact has_here | with_reducible exact has_pt | apply has_left)) rfl | exact o_loadC p3 rfl (by assumption)) ?_; refine ql_v rfl (o_addI rfl rfl (by omega)) ?_; refine ql_v rfl (o_gtr rfl rfl) ?_; refine ql_v rfl (o_assign (by conv => lhs; whnf)) ?_; refine ql_nil ?_; refine q_then_n ?_; refine tc_cond rfl (fun h => ?_) (fun h => ?_)
              · have c2 : e.at_ + e.out < x.at_ := by first | exact of_decide_eq_true h | exact h | simpa using h
                refine tc_seq ?_; refine tc_regh (S := A * pt b3 (cl e.cells 24)) mo (by repeat (first | with_reducible exact dr_refl | apply dr_keep | apply dr_drop)) ?_
                show TH _ _ _ _ _ 10 #[ff,ff,ff,ff,ff,ff,ff,ff,ff,ff] _ _
                refine th_take (i := 0) (listed' := #[tt,ff,ff,ff,ff,ff,ff,ff,ff,ff]) rfl (by kernel_rfl) (by kernel_rfl) (by kernel_rfl) rfl rfl (o_move (by conv => lhs; whnf)) ?_; refine th_take (i := 1) (listed' := #[tt,tt,ff,ff,ff,ff,ff,ff,ff,ff]) rfl (by kernel_rfl) (by kernel_rfl) (by kernel_rfl) rfl rfl (o_ncP (a := some ⟨bi, oi, none⟩) (m := 0) rfl nn_some) ?_; refine th_take (i := 2) (listed' := #[tt,tt,tt,ff,ff,ff,ff,ff,ff,ff]) rfl (by kernel_rfl) (by kernel_rfl) (by kernel_rfl) rfl rfl (o_faP (a := some ⟨bi, oi, none⟩) (m := 0) (o := 1) Try.underlying35 rfl rfl sz3 rfl nn_some) ?_; refine th_take (i := 4) (listed' := #[tt,tt,tt,ff,tt,ff,ff,ff,ff,ff]) rfl (by kernel_rfl) (by kernel_rfl) (by kernel_rfl) rfl rfl (o_fieldAddr (o := 1) Try.underlying24 rfl rfl sz3 rfl) ?_; refine th_take (i := 5) (listed' := #[tt,tt,tt,ff,tt,tt,ff,ff,ff,ff]) rfl (by kernel_rfl) (by kernel_rfl) (by kernel_rfl) rfl rfl (by first | exact o_load p3 rfl (by repeat (first | with_reducible exact has_here | with_reducible exact has_pt | apply has_left)) rfl | exact o_loadC p3 rfl (by assumption)) ?_; refine th_one (i := 3) (by kernel_rfl) ?_; refine oh_v (i := 3) (listed' := #[tt,tt,tt,tt,tt,tt,ff,ff,ff,ff]) rfl rfl rfl (o_ldP (a := some ⟨bi, oi, none⟩) p3 rfl (by repeat (first | with_reducible exact rs_sl | apply Rs.left)) (hf1)) ?_; refine th_take (i := 6) (listed' := #[tt,tt,tt,tt,tt,tt,tt,ff,ff,ff]) rfl (by kernel_rfl) (by kernel_rfl) (by kernel_rfl) rfl rfl (o_subI rfl rfl (by omega)) ?_
                refine th_take (i := 7) (listed' := #[tt,tt,tt,tt,tt,tt,tt,tt,ff,ff]) rfl (by kernel_rfl) (by kernel_rfl) (by kernel_rfl) rfl rfl (o_ncP (a := some ⟨bi, oi, none⟩) (m := 0) rfl nn_some) ?_; refine th_take (i := 8) (listed' := #[tt,tt,tt,tt,tt,tt,tt,tt,tt,ff]) rfl (by kernel_rfl) (by kernel_rfl) (by kernel_rfl) rfl rfl (o_faP (a := some ⟨bi, oi, none⟩) (m := 0) (o := 1) Try.underlying35 rfl rfl sz3 rfl nn_some) ?_; refine th_one (i := 9) (by kernel_rfl) ?_; refine oh_u (i := 9) (listed' := #[tt,tt,tt,tt,tt,tt,tt,tt,tt,tt]) rfl rfl rfl (o_stP (a := some ⟨bi, oi, none⟩) sz3 rfl rfl rfl (by repeat (first | with_reducible exact ct_here | apply ct_left)) (by omega) (mcs_s1 (l := shL e (srt (ltc cId) l) i) (v := x.at_ - e.out) (by omega))) (by repeat (first | with_reducible exact dr_refl | apply dr_keep | apply dr_drop)) ?_; refine th_done (by kernel_rfl) ?_; refine q_then_n ?_; refine tc_seq ?_; refine tc_seq ?_
                have hl2 : ((shL e (srt (ltc cId) l) i).set i { (shL e (srt (ltc cId) l) i)[i]'(by omega) with at_ := x.at_ - e.out }).length = n := by rw [List.length_set]; omega
                have hf3 : (mcs ((shL e (srt (ltc cId) l) i).set i { (shL e (srt (ltc cId) l) i)[i]'(by omega) with at_ := x.at_ - e.out }))[i * 3 + 1]? = some (.int .i64 (x.at_ - e.out)) := by rw [mcs_f1 (by omega), List.getElem_set_self]
                refine tc_regq mo (by kernel_rfl) ?_; refine ql_v rfl (o_move (by conv => lhs; whnf)) ?_; refine ql_v rfl (o_ncP (a := some ⟨bi, oi, none⟩) (m := 0) rfl nn_some) ?_; refine ql_v rfl (o_faP (a := some ⟨bi, oi, none⟩) (m := 0) (o := 1) Try.underlying35 rfl rfl sz3 rfl nn_some) ?_; refine ql_v rfl (o_ldP (a := some ⟨bi, oi, none⟩) p3 rfl (by repeat (first | with_reducible exact rs_sl | apply Rs.left)) (hf3)) ?_; refine ql_v rfl (o_fieldAddr (o := 2) Try.underlying24 rfl rfl sz3 rfl) ?_; refine ql_v rfl (by first | exact o_load p3 rfl (by repeat (first | with_reducible exact has_here | with_reducible exact has_pt | apply has_left)) rfl | exact o_loadC p3 rfl (by assumption)) ?_; refine ql_v rfl (o_subI rfl rfl (by omega)) ?_; refine ql_v rfl (o_gtr rfl rfl) ?_; refine ql_nil ?_; refine q_then_n ?_; refine tc_cond rfl (fun h => ?_) (fun h => ?_)
                · have c3 : 9223372036854775807 - e.inn < x.at_ - e.out := by first | exact of_decide_eq_true h | exact h | simpa using h
                  have hg : gnM e x = none := by unfold gnM goneS; rw [if_neg c1, if_pos c2, if_pos c3]
                  refine sr ?_; refine tla ?_; refine tla ?_; refine nq ?_; refine tc_ret ?_; refine q_then_r (q_block_r (q_block_r (q_then_r (q_then_r (q_block_r (q_then_r ?_))))))
                  have e0 : shiftS l e = ([], 2) := by unfold shiftS; rw [if_neg (by simpa using hne), if_neg (by rw [hem]; decide), if_neg (fun hc => by have := List.all_eq_true.1 hc x (hx ▸ List.getElem_mem hi); rw [hg] at this; cases this)]
                  rw [e0]
                  exact ⟨.tuple #[.slice none 0 0, .int .i64 2], A * Sl 3 (.slice none 0 0) 0 [], res2 rfl rfl rfl, fun _ _ h => sl_nil (Dr.sat (by repeat (first | with_reducible exact dr_refl | apply dr_keep | apply dr_drop)) _ _ h), none, 0, rfl, Nat.le_refl _, rfl⟩
                · have c3 : ¬ 9223372036854775807 - e.inn < x.at_ - e.out := by first | exact of_decide_eq_false h | exact h | simpa using h
                  have hg : gnM e x = some (x.at_ - e.out + e.inn) := by unfold gnM goneS; rw [if_neg c1, if_pos c2, if_neg c3]
                  refine tc_skip ?_; refine q_then_n ?_; refine tc_regh (S := A * pt b3 (cl e.cells 24)) mo (by repeat (first | with_reducible exact dr_refl | apply dr_keep | apply dr_drop)) ?_
                  show TH _ _ _ _ _ 10 #[ff,ff,ff,ff,ff,ff,ff,ff,ff,ff] _ _
                  refine th_take (i := 0) (listed' := #[tt,ff,ff,ff,ff,ff,ff,ff,ff,ff]) rfl (by kernel_rfl) (by kernel_rfl) (by kernel_rfl) rfl rfl (o_move (by conv => lhs; whnf)) ?_; refine th_take (i := 1) (listed' := #[tt,tt,ff,ff,ff,ff,ff,ff,ff,ff]) rfl (by kernel_rfl) (by kernel_rfl) (by kernel_rfl) rfl rfl (o_ncP (a := some ⟨bi, oi, none⟩) (m := 0) rfl nn_some) ?_; refine th_take (i := 2) (listed' := #[tt,tt,tt,ff,ff,ff,ff,ff,ff,ff]) rfl (by kernel_rfl) (by kernel_rfl) (by kernel_rfl) rfl rfl (o_faP (a := some ⟨bi, oi, none⟩) (m := 0) (o := 1) Try.underlying35 rfl rfl sz3 rfl nn_some) ?_; refine th_take (i := 4) (listed' := #[tt,tt,tt,ff,tt,ff,ff,ff,ff,ff]) rfl (by kernel_rfl) (by kernel_rfl) (by kernel_rfl) rfl rfl (o_fieldAddr (o := 2) Try.underlying24 rfl rfl sz3 rfl) ?_; refine th_take (i := 5) (listed' := #[tt,tt,tt,ff,tt,tt,ff,ff,ff,ff]) rfl (by kernel_rfl) (by kernel_rfl) (by kernel_rfl) rfl rfl (by first | exact o_load p3 rfl (by repeat (first | with_reducible exact has_here | with_reducible exact has_pt | apply has_left)) rfl | exact o_loadC p3 rfl (by assumption)) ?_; refine th_one (i := 3) (by kernel_rfl) ?_; refine oh_v (i := 3) (listed' := #[tt,tt,tt,tt,tt,tt,ff,ff,ff,ff]) rfl rfl rfl (o_ldP (a := some ⟨bi, oi, none⟩) p3 rfl (by repeat (first | with_reducible exact rs_sl | apply Rs.left)) (hf3)) ?_; refine th_take (i := 6) (listed' := #[tt,tt,tt,tt,tt,tt,tt,ff,ff,ff]) rfl (by kernel_rfl) (by kernel_rfl) (by kernel_rfl) rfl rfl (o_addI rfl rfl (by omega)) ?_
                  refine th_take (i := 7) (listed' := #[tt,tt,tt,tt,tt,tt,tt,tt,ff,ff]) rfl (by kernel_rfl) (by kernel_rfl) (by kernel_rfl) rfl rfl (o_ncP (a := some ⟨bi, oi, none⟩) (m := 0) rfl nn_some) ?_; refine th_take (i := 8) (listed' := #[tt,tt,tt,tt,tt,tt,tt,tt,tt,ff]) rfl (by kernel_rfl) (by kernel_rfl) (by kernel_rfl) rfl rfl (o_faP (a := some ⟨bi, oi, none⟩) (m := 0) (o := 1) Try.underlying35 rfl rfl sz3 rfl nn_some) ?_; refine th_one (i := 9) (by kernel_rfl) ?_; refine oh_u (i := 9) (listed' := #[tt,tt,tt,tt,tt,tt,tt,tt,tt,tt]) rfl rfl rfl (o_stP (a := some ⟨bi, oi, none⟩) sz3 rfl rfl rfl (by repeat (first | with_reducible exact ct_here | apply ct_left)) (by omega) (mcs_s1 (l := (shL e (srt (ltc cId) l) i).set i { (shL e (srt (ltc cId) l) i)[i]'(by try omega) with at_ := x.at_ - e.out }) (v := x.at_ - e.out + e.inn) (by omega))) (by repeat (first | with_reducible exact dr_refl | apply dr_keep | apply dr_drop)) ?_; refine th_done (by kernel_rfl) ?_; refine q_block_n (q_block_n (q_then_n ?_)); refine tc_reg ?_; refine tv (by first | exact o_addI rfl rfl (by omega) | exact o_add rfl rfl) ?_; refine tlm ?_; refine nq ?_; exact ⟨_, by omega, i + 1, by omega, by rw [List.take_succ_eq_append_getElem (by omega)]; intro y hy; rcases List.mem_append.1 hy with h1 | h1; exact hp1 y h1; rw [List.mem_singleton.1 h1, hx, hg]; rfl, rfl, rfl, rfl, rfl, rfl, by first | (rw [shc0 hi hx hg]; done) | (rw [shc1 hi hx hg]; done) | (rw [shc2 (u := x.at_ - e.out) hi hx hg]; first | done | rfl)⟩
              · have c2 : ¬ e.at_ + e.out < x.at_ := by first | exact of_decide_eq_false h | exact h | simpa using h
                refine sr ?_; refine tlm ?_; refine tv (o_ncP (m := 0) rfl (by repeat (first | exact nn_some | with_reducible exact nn_sl (by decide) | exact nn_rs (by assumption) (fun _ => by first | omega | (simp only [bys_length, ints_length, wds_length, bos_length, List.length_append, List.length_take, List.length_drop, List.length_singleton]; omega)) | apply Nn.left))) ?_; refine tv (o_faP (m := 0) (o := 2) Try.underlying35 rfl rfl sz5 rfl (by repeat (first | exact nn_some | with_reducible exact nn_sl (by decide) | exact nn_rs (by assumption) (fun _ => by first | omega | (simp only [bys_length, ints_length, wds_length, bos_length, List.length_append, List.length_take, List.length_drop, List.length_singleton]; omega)) | apply Nn.left))) ?_; refine tv (o_ldP p5 rfl (by repeat (first | assumption | with_reducible exact rs_sl | with_reducible exact rs_pt0 | exact rs_none | apply Rs.left)) (by first | assumption | exact bys_at (by omega) | exact ints_at (by omega) | exact wds_at (by omega) | exact bos_at (by omega) | rfl)) ?_; refine tv (o_eqi rfl rfl) ?_; refine tla ?_; refine nq ?_; refine tc_cond rfl (fun h => ?_) (fun h => ?_)
                · have c4 : x.gr = 1 := by first | omega | (simp at h; omega)
                  have hg : gnM e x = some (e.at_ + e.inn) := by unfold gnM goneS; rw [if_neg c1, if_neg c2, if_pos (decide_eq_true c4)]
                  refine tc_reg ?_; refine tlm ?_; refine tv (o_fieldAddr (o := 0) Try.underlying24 rfl rfl sz3 rfl) ?_; refine tv (by first | exact o_load p3 rfl (by repeat (first | with_reducible exact has_here | with_reducible exact has_pt | apply has_left)) rfl | exact o_loadC p3 rfl (by assumption)) ?_; refine tv (o_fieldAddr (o := 2) Try.underlying24 rfl rfl sz3 rfl) ?_; refine tv (by first | exact o_load p3 rfl (by repeat (first | with_reducible exact has_here | with_reducible exact has_pt | apply has_left)) rfl | exact o_loadC p3 rfl (by assumption)) ?_; refine tv (o_addI rfl rfl (by omega)) ?_; refine tv (o_ncP (a := some ⟨bi, oi, none⟩) (m := 0) rfl nn_some) ?_; refine tv (o_faP (a := some ⟨bi, oi, none⟩) (m := 0) (o := 1) Try.underlying35 rfl rfl sz3 rfl nn_some) ?_; refine tl_u rfl (o_stP (a := some ⟨bi, oi, none⟩) sz3 rfl rfl rfl (by repeat (first | with_reducible exact ct_here | apply ct_left)) (by omega) (mcs_s1 (l := shL e (srt (ltc cId) l) i) (v := e.at_ + e.inn) (by omega))) ?_; refine tl_nil ?_; refine q_block_n (q_block_n (q_then_n ?_)); refine tc_reg ?_; refine tv (by first | exact o_addI rfl rfl (by omega) | exact o_add rfl rfl) ?_; refine tlm ?_; refine nq ?_
                  exact ⟨_, by omega, i + 1, by omega, by rw [List.take_succ_eq_append_getElem (by omega)]; intro y hy; rcases List.mem_append.1 hy with h1 | h1; exact hp1 y h1; rw [List.mem_singleton.1 h1, hx, hg]; rfl, rfl, rfl, rfl, rfl, rfl, by first | (rw [shc0 hi hx hg]; done) | (rw [shc1 hi hx hg]; done) | (rw [shc2 (u := x.at_ - e.out) hi hx hg]; first | done | rfl)⟩
                · have c4 : x.gr ≠ 1 := by first | omega | (simp at h; omega)
                  have hg : gnM e x = some e.at_ := by unfold gnM goneS; rw [if_neg c1, if_neg c2, if_neg (by simpa using c4)]
                  refine tc_reg ?_; refine tlm ?_; refine tv (o_fieldAddr (o := 0) Try.underlying24 rfl rfl sz3 rfl) ?_; refine tv (by first | exact o_load p3 rfl (by repeat (first | with_reducible exact has_here | with_reducible exact has_pt | apply has_left)) rfl | exact o_loadC p3 rfl (by assumption)) ?_; refine tv (o_ncP (a := some ⟨bi, oi, none⟩) (m := 0) rfl nn_some) ?_; refine tv (o_faP (a := some ⟨bi, oi, none⟩) (m := 0) (o := 1) Try.underlying35 rfl rfl sz3 rfl nn_some) ?_; refine tl_u rfl (o_stP (a := some ⟨bi, oi, none⟩) sz3 rfl rfl rfl (by repeat (first | with_reducible exact ct_here | apply ct_left)) (by omega) (mcs_s1 (l := shL e (srt (ltc cId) l) i) (v := e.at_) (by omega))) ?_; refine tl_nil ?_; refine q_block_n (q_block_n (q_then_n ?_)); refine tc_reg ?_; refine tv (by first | exact o_addI rfl rfl (by omega) | exact o_add rfl rfl) ?_; refine tlm ?_; refine nq ?_; exact ⟨_, by omega, i + 1, by omega, by rw [List.take_succ_eq_append_getElem (by omega)]; intro y hy; rcases List.mem_append.1 hy with h1 | h1; exact hp1 y h1; rw [List.mem_singleton.1 h1, hx, hg]; rfl, rfl, rfl, rfl, rfl, rfl, by first | (rw [shc0 hi hx hg]; done) | (rw [shc1 hi hx hg]; done) | (rw [shc2 (u := x.at_ - e.out) hi hx hg]; first | done | rfl)⟩
          · try simp only [lv1, lv2, lv3, lv4, lv5, lv6, Bool.not_true, Bool.not_false] at h
            refine tc_exit ?_; refine q_then_e (q_then_e (q_block_x (q_then_n ?_))); refine sr ?_; refine tlm ?_; refine tla ?_; refine tla ?_; refine nq ?_; refine tc_ret ?_
            have hi : n ≤ i := by first | omega | (simp at h; omega)
            obtain rfl : i = (srt (ltc cId) l).length := by omega
            rw [List.take_length] at hp1
            have e0 : shiftS l e = ((srt (ltc cId) l).map (mvM e), 0) := by unfold shiftS; rw [if_neg (by simpa using hne), if_neg (by rw [hem]; decide), if_pos (List.all_eq_true.2 hp1)]
            rw [e0]
            have el : ((srt (ltc cId) l).map (mvM e)).length = n := by rw [List.length_map]; exact hsl
            exact ⟨.tuple #[.slice a45 n c45, .int .i64 0], A * Sl 3 (.slice a45 n c45) n (mcs ((srt (ltc cId) l).map (mvM e))), res2 rfl rfl rfl, fun _ _ h => by rw [← shL_all]; exact Dr.sat (by repeat (first | with_reducible exact dr_refl | apply dr_keep | apply dr_drop)) _ _ h, a45, c45, by rw [el], by rw [el]; exact hc45, by rw [el]⟩
end Go.Vl

set_option linter.unusedVariables false
set_option linter.unusedSimpArgs false
namespace Go.Vl
open Go Go.Proofs
/-- Sixteen bytes of a mark. -/
def pkM (m : Mk) : List Nat := le 4 m.id ++ (le 8 m.at_.toNat ++ [m.gr, 0, 0, 0])
def pkS (l : List Mk) : List Nat := l.flatMap pkM
theorem pkM_len (m : Mk) : (pkM m).length = 16 := by unfold pkM; simp [le_length]
theorem pkS_len : ∀ (l : List Mk), (pkS l).length = 16 * l.length
  | [] => rfl
  | m :: l => by show (pkM m ++ pkS l).length = _; rw [List.length_append, pkM_len, pkS_len l, List.length_cons]; omega
theorem pkS_snoc (l : List Mk) (m : Mk) : pkS (l ++ [m]) = pkS l ++ pkM m := by simp [pkS]
theorem pkM_bytes {m : Mk} (h : m.gr < 256) : ∀ x ∈ pkM m, x < 256 := fun x hx => by
  unfold pkM at hx
  rcases List.mem_append.1 hx with h1 | h1
  · exact le_bytes _ _ _ h1
  · rcases List.mem_append.1 h1 with h2 | h2
    · exact le_bytes _ _ _ h2
    · simp only [List.mem_cons, List.not_mem_nil, or_false] at h2; omega
theorem pkS_bytes {l : List Mk} (h : ∀ m ∈ l, m.gr < 256) : ∀ x ∈ pkS l, x < 256 := fun x hx => by
  obtain ⟨m, hm, h2⟩ := List.mem_flatMap.1 hx
  exact pkM_bytes (h m hm) x h2
def packS (l : List Mk) : ByteArray × Int := if mayS l ≠ 0 then (.empty, mayS l) else (sob (pkS (srt (ltc cId) l)), 0)
attribute [local irreducible] Sl pt ro SlB
set_option maxRecDepth 20000 in
set_option maxHeartbeats 2000000 in
theorem Pack_c {A : SP} {a : Option Addr} {c n : Nat} {l : List Mk} (hr : Rs A a (mcs l) := by repeat (first | assumption | with_reducible exact rs_sl | with_reducible exact rs_pt0 | exact rs_none | apply Rs.left)) (hm : l.length = n := by first | assumption | rfl) (hW : ∀ x ∈ l, MkW x := by assumption) (hs : n ≤ 5864062014800 := by omega) :
    Fn Try.prog 27 #[.slice a n c] (A) (fun r B => r = .tuple #[.string (packS l).1, .int .i64 (packS l).2] ∧ A = B) := by
  refine fn_enterW (args := [.slice a n c]) Try.func27 rfl Try.ntmps27 (by simp) ?_; refine sr ?_; refine tla ?_; refine tla ?_; refine nq ?_; refine tc_seq ?_; refine sr ?_; refine tlm ?_; refine tl_c rfl (o_call bd32 rfl (may_c (l := l))) ?_; rintro _ _ ⟨rfl, rfl⟩; refine tla ?_; refine nq ?_; refine sr ?_; refine tlm ?_; refine tv (o_nei rfl rfl) ?_; refine nq ?_; refine tc_cond rfl (fun h => ?_) (fun h => ?_)
  · have hne : mayS l ≠ 0 := by simpa using h
    refine sr ?_; refine tlm ?_; refine tla ?_; refine tla ?_; refine nq ?_; refine tc_ret ?_; refine q_then_r ?_
    have e0 : packS l = (.empty, mayS l) := by unfold packS; rw [if_pos hne]
    rw [e0]
    exact ⟨.tuple #[.string .empty, .int .i64 (mayS l)], A, res2 rfl rfl rfl, Dr.sat (by repeat (first | with_reducible exact dr_refl | apply dr_keep | apply dr_drop)), rfl, rfl⟩
  · have hne : mayS l = 0 := by simpa using h
    have h32 := (may_zero hne).1
    have hok := (may_zero hne).2.1
    refine tc_skip ?_; refine q_then_n ?_; refine sr ?_; refine tl_x rfl (o_alloc (l := [.pointer none, .slice none 0 0]) z64 rfl) ?_; rintro _ _ ⟨b5, rfl, rfl⟩; refine nq ?_; refine tc_seq ?_; refine sr ?_; refine tlm ?_; refine tl_c rfl (o_call bd33 rfl (ordered_c (l := l) ordId cId_swo)) ?_; rintro _ _ ⟨a15, c15, rfl, hc15, rfl⟩
    have hsl : (srt (ltc cId) l).length = n := by rw [srt_length cId_swo]; assumption
    refine tv (o_len Try.underlying22 rfl) ?_; refine tlm ?_; refine nq ?_; refine tc_block ?_; refine tc_pre (A' := A * Sl 3 (.slice a15 n c15) n (mcs (srt (ltc cId) l)) * pt b5 (cl [.pointer none, .slice none 0 0] 64) * SlB 5 (.slice none 0 0) 0 []) (fun _ _ h => slb_nil (h.perm (by ac_rfl))) ?_; refine tc_loop (fun kk ρ BB => ∃ (i : Nat) (ab : Option Addr) (cb : Nat) (p : Value), (i ≤ n) ∧ (p = .pointer none ∨ p = .pointer (some ⟨b5, 0, none⟩)) ∧ (0 < i ∨ ab = none) ∧ kk = n - i ∧ ρ 17 = .int .i64 (i : Nat) ∧ ρ 5 = .pointer (some ⟨b5, 0, none⟩) ∧ ρ 15 = .slice a15 n c15 ∧ ρ 16 = .int .i64 (n : Nat) ∧ Dr BB (A * Sl 3 (.slice a15 n c15) n (mcs (srt (ltc cId) l)) * pt b5 (cl [p, .slice ab (16 * i) cb] 64) * SlB 5 (.slice ab (16 * i) cb) (16 * i) (bys (pkS ((srt (ltc cId) l).take i))))) (m := n - (0)) ?_ ?_
    · exact ⟨0, none, 0, .pointer none, by omega, .inl rfl, .inr rfl, rfl, rfl, rfl, rfl, rfl, (by repeat (first | with_reducible exact dr_refl | apply dr_keep | apply dr_drop))⟩
    · intro k ρ B hI
      obtain ⟨i, ab, cb, p, hp0, hp1, hp2, hkk1, hE17, hE5, hE15, hE16, hBA⟩ := hI
      refine tc_pre hBA.sat ?_
      clear hBA
      refine tc_env (d := 17) hE17 ?_; refine tc_env (d := 5) hE5 ?_; refine tc_env (d := 15) hE15 ?_; refine tc_env (d := 16) hE16 ?_
      clear hE17 hE5 hE15 hE16
      refine sr ?_; refine tv (o_lss rfl rfl) ?_; refine nq ?_; refine tc_seq ?_; refine tc_cond rfl (fun h => ?_) (fun h => ?_)
      · have hi : i < (srt (ltc cId) l).length := by first | omega | (simp at h; omega)
        obtain ⟨x, hx⟩ : ∃ x, (srt (ltc cId) l)[i] = x := ⟨_, rfl⟩
        have hxm : x ∈ l := (srt_mem cId_swo).1 (hx ▸ List.getElem_mem hi)
        have hxW := hW x hxm
        have hxi := hxW.id
        have hxg := hxW.gr
        have hxa := hxW.at_
        have hxo : okM x = true := List.all_eq_true.1 hok x hxm
        have hx0 : 0 ≤ x.at_ := by unfold okM at hxo; simp only [Bool.and_eq_true, decide_eq_true_eq] at hxo; exact hxo.1
        have hxt : x.at_ = ((x.at_.toNat : Nat) : Int) := (Int.toNat_of_nonneg hx0).symm
        have htk : (srt (ltc cId) l).take (i + 1) = (srt (ltc cId) l).take i ++ [x] := by rw [List.take_succ_eq_append_getElem hi, hx]
        have hpl : (pkS ((srt (ltc cId) l).take i)).length = 16 * i := by rw [pkS_len, List.length_take]; omega
        refine tc_skip ?_; refine q_then_n ?_; refine tc_seq ?_; refine tc_block ?_; refine sr ?_; refine tv (o_ixP Try.underlying22 sz35 rfl rfl (by omega) (by repeat (first | exact nn_sl (by decide) | apply Nn.left))) ?_; refine tv (o_ldPN (vs := x.cells) a35 sz35 rfl (by repeat (first | with_reducible exact rs_sl | apply Rs.left)) (by rw [mcs_at (by omega), hx]) rfl (by decide)) ?_; refine tl_x rfl (o_alloc z35 rfl) ?_; rintro _ _ ⟨b7, rfl, rfl⟩; refine tl_u rfl (o_stUN (l' := x.cells) rfl (by repeat (first | with_reducible exact upd_here | with_reducible exact upd_pt | apply upd_left)) sz35 rfl rfl rfl (by show 3 ≤ 3; decide) rfl) ?_; refine nq ?_; refine tc_seq ?_; refine tc_regh (S := A * Sl 3 (.slice a15 n c15) n (mcs (srt (ltc cId) l)) * pt b5 (cl [p, .slice ab (16 * i) cb] 64) * SlB 5 (.slice ab (16 * i) cb) (16 * i) (bys (pkS ((srt (ltc cId) l).take i))) * pt b7 (cl x.cells 35)) mo (by repeat (first | with_reducible exact dr_refl | apply dr_keep | apply dr_drop)) ?_
        show TH _ _ _ _ _ 8 #[ff,ff,ff,ff,ff,ff,ff,ff] _ _
        refine th_take (i := 0) (listed' := #[tt,ff,ff,ff,ff,ff,ff,ff]) rfl (by kernel_rfl) (by kernel_rfl) (by kernel_rfl) rfl rfl (o_fieldAddr (o := 0) Try.underlying35 rfl rfl sz33 rfl) ?_; refine th_take (i := 1) (listed' := #[tt,tt,ff,ff,ff,ff,ff,ff]) rfl (by kernel_rfl) (by kernel_rfl) (by kernel_rfl) rfl rfl (by first | exact o_load p33 rfl (by repeat (first | with_reducible exact has_here | with_reducible exact has_pt | apply has_left)) rfl | exact o_loadC p33 rfl (by assumption)) ?_; refine th_take (i := 3) (listed' := #[tt,tt,ff,tt,ff,ff,ff,ff]) rfl (by kernel_rfl) (by kernel_rfl) (by kernel_rfl) rfl rfl (o_fieldAddr (o := 1) Try.underlying35 rfl rfl sz3 rfl) ?_; refine th_take (i := 4) (listed' := #[tt,tt,ff,tt,tt,ff,ff,ff]) rfl (by kernel_rfl) (by kernel_rfl) (by kernel_rfl) rfl rfl (by first | exact o_load p3 rfl (by repeat (first | with_reducible exact has_here | with_reducible exact has_pt | apply has_left)) rfl | exact o_loadC p3 rfl (by assumption)) ?_; refine th_env (d := 25) (v := .int .i64 ((x.at_.toNat : Nat) : Int)) (congrArg (Value.int .i64) hxt) ?_; refine th_take (i := 5) (listed' := #[tt,tt,ff,tt,tt,tt,ff,ff]) rfl (by kernel_rfl) (by kernel_rfl) (by kernel_rfl) rfl rfl (by first | exact o_conv64 Try.underlying3 Try.underlying66 rfl | exact o_conv Try.underlying3 Try.underlying66 rfl) ?_; refine th_env (d := 26) (v := .int .u64 ((x.at_.toNat : Nat) : Int)) (congrArg (fun z : Nat => Value.int .u64 (z : Int)) (Nat.mod_eq_of_lt (by omega))) ?_
        refine th_one (i := 2) (by kernel_rfl) ?_; refine oh_c (i := 2) (listed' := #[tt,tt,tt,tt,tt,tt,ff,ff]) rfl rfl rfl (o_call bd46 rfl (Put32_c (xs := []) (v := x.id))) ?_; rintro _ _ ⟨a23, c23, rfl, hc23, rfl⟩; refine ⟨by repeat (first | with_reducible exact dr_refl | apply dr_keep | apply dr_drop), ?_⟩; refine th_env (d := 23) (v := .slice a23 4 c23) (rfl) ?_; refine th_one (i := 6) (by kernel_rfl) ?_; refine oh_c (i := 6) (listed' := #[tt,tt,tt,tt,tt,tt,tt,ff]) rfl rfl rfl (o_call bd45 rfl (Put64_c (m := 4) (xs := [] ++ le 4 x.id) (v := x.at_.toNat) (hr := rs_sl) (hm := by rw [List.nil_append, le_length]))) ?_; rintro _ _ ⟨a27, c27, rfl, hc27, rfl⟩; refine ⟨by repeat (first | with_reducible exact dr_refl | apply dr_keep | apply dr_drop), ?_⟩; refine th_env (d := 27) (v := .slice a27 12 c27) (rfl) ?_; refine th_take (i := 7) (listed' := #[tt,tt,tt,tt,tt,tt,tt,tt]) rfl (by kernel_rfl) (by kernel_rfl) (by kernel_rfl) rfl rfl (o_assign (by conv => lhs; whnf)) ?_; refine th_done (by kernel_rfl) ?_; refine q_then_n ?_; refine tc_reg ?_; refine tlm ?_; refine tv (o_fieldAddr (o := 2) Try.underlying35 rfl rfl sz5 rfl) ?_; refine tv (by first | exact o_load p5 rfl (by repeat (first | with_reducible exact has_here | with_reducible exact has_pt | apply has_left)) rfl | exact o_loadC p5 rfl (by assumption)) ?_; refine tl_x rfl (o_buildSliceL (k := 1) (vs := bys [x.gr, 0, 0, 0]) (l := bys [x.gr, 0, 0, 0]) Try.underlying62 sz5 z5 rfl rfl (by decide) (by decide) (by intro v hv; simp only [bys, b8, List.map_cons, List.map_nil, List.mem_cons, List.not_mem_nil, or_false] at hv; rcases hv with rfl | rfl | rfl | rfl <;> rfl) rfl) ?_
        rintro _ _ ⟨b31, rfl, rfl⟩; refine tl_x rfl (o_apB Try.underlying62 Try.underlying62 sz5 by5 z5 rfl (by decide) (by decide) rfl rfl rfl (by repeat (first | with_reducible exact ct_here | apply ct_left)) rfl rfl (by decide) (show bys ([] ++ le 4 x.id ++ le 8 x.at_.toNat) ++ bys [x.gr, 0, 0, 0] = bys (pkM x) by rw [← bys_append]; unfold pkM; rw [List.nil_append, List.append_assoc])) ?_; rintro _ _ ⟨a32, c32, rfl, hc32, rfl⟩; refine tl_c rfl (o_call bd47 rfl (Fn.pre (bw_f (A * Sl 3 (.slice a15 n c15) n (mcs (srt (ltc cId) l)) * pt b7 (cl x.cells 35) * Sl 1 (.slice a32 (12 + 4) c32) (12 + 4) (bys (pkM x))) (m := 12 + 4) (ys := pkM x) hp1 rs_sl (pkM_len x) hpl (by omega)) (fun g w h => (Dr.sat (A' := A * Sl 3 (.slice a15 n c15) n (mcs (srt (ltc cId) l)) * pt b5 (cl [p, .slice ab (16 * i) cb] 64) * SlB 5 (.slice ab (16 * i) cb) (16 * i) (bys (pkS ((srt (ltc cId) l).take i))) * pt b7 (cl x.cells 35) * Sl 1 (.slice a32 (12 + 4) c32) (12 + 4) (bys (pkM x))) (by repeat (first | with_reducible exact dr_refl | apply dr_keep | apply dr_drop)) g w h).perm (by ac_rfl)))) ?_; rintro _ _ ⟨a33, c33, rfl, rfl⟩
        rw [← pkS_snoc, ← htk, show 16 * i + (12 + 4) = 16 * (i + 1) by omega]
        refine tl_nil ?_; refine q_block_n (q_then_n ?_); refine tc_reg ?_; refine tv (by first | exact o_addI rfl rfl (by omega) | exact o_add rfl rfl) ?_; refine tlm ?_; refine nq ?_; exact ⟨_, by omega, i + 1, a33, c33, _, by omega, .inr rfl, .inl (by omega), rfl, rfl, rfl, rfl, rfl, (by repeat (first | with_reducible exact dr_refl | apply dr_keep | apply dr_drop))⟩
      · try simp only [lv1, lv2, lv3, lv4, lv5, lv6, Bool.not_true, Bool.not_false] at h
        refine tc_exit ?_; refine q_then_e (q_then_e (q_block_x (q_then_n ?_))); refine sr ?_
        obtain rfl : i = n := by first | omega | (simp at h; omega)
        refine tl_c rfl (o_call bd48 rfl (Fn.pre (bs_f A (n := 16 * i) (xs := pkS ((srt (ltc cId) l).take i)) (by rw [pkS_len, List.length_take]; omega) (by rcases hp2 with h1 | h1; exact .inl (by omega); exact .inr h1) (pkS_bytes fun m hm => (hW m ((srt_mem cId_swo).1 (List.mem_of_mem_take hm))).gr) (by omega)) (Dr.sat (by repeat (first | with_reducible exact dr_refl | apply dr_keep | apply dr_drop))))) ?_; rintro _ _ ⟨rfl, hB⟩
        obtain rfl := hB.symm
        refine tla ?_; refine tla ?_; refine nq ?_; refine tc_ret ?_
        rw [List.take_of_length_le (by omega)]
        have e0 : packS l = (sob (pkS (srt (ltc cId) l)), 0) := by unfold packS; rw [if_neg (by simpa using hne)]
        rw [e0]
        exact ⟨.tuple #[.string (sob (pkS (srt (ltc cId) l))), .int .i64 0], A, res2 rfl rfl rfl, Dr.sat (by repeat (first | with_reducible exact dr_refl | apply dr_keep | apply dr_drop)), rfl, rfl⟩
end Go.Vl

set_option linter.unusedVariables false
set_option linter.unusedSimpArgs false
namespace Go.Vl
open Go Go.Proofs
attribute [local irreducible] Sl pt ro SlB
set_option maxRecDepth 20000 in
set_option maxHeartbeats 2000000 in
theorem rMay_c {A : SP} {a : Option Addr} {c n : Nat} {l : List Mk} (hr : Rs A a (mcs l) := by repeat (first | assumption | with_reducible exact rs_sl | with_reducible exact rs_pt0 | exact rs_none | apply Rs.left)) (hm : l.length = n := by first | assumption | rfl) (hs : n ≤ 1125899906842624 := by omega) :
    Fn Try.prog 35 #[.slice a n c] (A) (fun r B => r = .int .i64 (mayS l) ∧ A = B) := by
  refine fn_enterW (args := [.slice a n c]) Try.func35 rfl Try.ntmps35 (by simp) ?_; refine sr ?_; refine tla ?_; refine nq ?_; refine tc_seq ?_; refine sr ?_; refine tlm ?_; refine tv (o_len Try.underlying22 rfl) ?_; refine tv (o_gtr rfl rfl) ?_; refine nq ?_; refine tc_cond rfl (fun h => ?_) (fun h => ?_)
  · try simp only [lv1, lv2, lv3, lv4, lv5, lv6, Bool.not_true, Bool.not_false] at h
    refine sr ?_; refine tla ?_; refine nq ?_; refine tc_ret ?_; refine q_then_r ?_; refine ⟨.int .i64 191, _, res1 rfl rfl, ?_, (by unfold mayS; rw [if_pos (by first | omega | (simp at h; omega))]), rfl⟩; exact Dr.sat (by repeat (first | with_reducible exact dr_refl | apply dr_keep | apply dr_drop))
  · have h32 : l.length ≤ 32 := by first | omega | (simp at h; omega)
    refine tc_skip ?_; refine q_then_n ?_; refine tc_seq ?_; refine sr ?_; refine tla ?_; refine nq ?_; refine tc_block ?_; refine tc_loop (fun kk ρ BB => ∃ (i : Nat), (i ≤ n) ∧ ((l.take i).all okM = true) ∧ (((l.take i).map Mk.id).Nodup) ∧ kk = n - i ∧ ρ 3 = .int .i64 (i : Nat) ∧ ρ 0 = .slice a n c ∧ BB = A) (m := n - (0)) ?_ ?_
    · exact ⟨0, by omega, rfl, by simp, rfl, rfl, rfl, rfl⟩
    · intro k ρ B hI
      obtain ⟨i, hp0, hp1, hp2, hkk1, hE3, hE0, hBA⟩ := hI
      obtain rfl := hBA.symm
      refine tc_env (d := 3) hE3 ?_; refine tc_env (d := 0) hE0 ?_
      clear hE3 hE0
      refine tc_seq ?_; refine sr ?_; refine tlm ?_; refine tlm ?_; refine tv (o_len Try.underlying22 rfl) ?_; refine tv (o_lss rfl rfl) ?_; refine nq ?_; refine tc_cond rfl (fun h => ?_) (fun h => ?_)
      · have hi : i < l.length := by first | omega | (simp at h; omega)
        obtain ⟨x, hx⟩ : ∃ x, l[i] = x := ⟨_, rfl⟩
        have htk : l.take (i + 1) = l.take i ++ [x] := by rw [List.take_succ_eq_append_getElem hi, hx]
        have htm : (l.take (i + 1)).map Mk.id = (l.take i).map Mk.id ++ [x.id] := by rw [htk, List.map_append]; rfl
        refine tc_skip ?_; refine q_then_n ?_; refine tc_seq ?_; refine tc_block ?_; refine tc_seq ?_; refine sr ?_; refine tlm ?_; refine tlm ?_; refine tv (o_ixP Try.underlying22 sz35 rfl rfl (by omega) (by repeat (first | exact nn_rs hr (fun _ => by rw [mcs_len]; omega) | apply Nn.left))) ?_; refine tv (o_faP (m := 0) (o := 1) Try.underlying35 rfl rfl sz3 rfl (nn_rs hr (fun _ => by rw [mcs_len]; omega))) ?_; refine tv (o_ldP p3 rfl (by repeat (first | exact hr | apply Rs.left)) (by rw [mcs_f1 hi])) ?_; refine tl_env (d := 18) (v := .int .i64 x.at_) (by rw [← hx]; rfl) ?_; refine tv (o_lss rfl rfl) ?_; refine tlm ?_; refine tl_bool (d := 20) rfl (fun h => ?_) (fun h => ?_)
        · have g1 : x.at_ < 0 := by first | exact of_decide_eq_true h | exact h | simpa using h
          have hok : okM x = false := by unfold okM; rw [decide_eq_false (show ¬ 0 ≤ x.at_ by omega), Bool.false_and]
          refine tk ?_; refine tk ?_; refine tk ?_; refine tk ?_; refine tk ?_; refine tk ?_; refine tv (o_pick_t rfl (by conv => lhs; whnf)) ?_; refine nq ?_; refine tc_cond_t rfl ?_; refine sr ?_; refine tla ?_; refine nq ?_; refine tc_ret ?_; refine q_then_r (q_block_r (q_then_r (q_then_r (q_block_r (q_then_r ?_))))); refine ⟨.int .i64 190, _, res1 rfl rfl, ?_, (by first | rw [may_bad h32 (hx ▸ List.getElem_mem hi) hok] | rw [may_dup h32 hi (by rw [hx, ← hki]; exact List.mem_map_of_mem (List.mem_take_iff_getElem.2 ⟨k, by omega, rfl⟩))]), rfl⟩; exact Dr.sat (by repeat (first | with_reducible exact dr_refl | apply dr_keep | apply dr_drop))
        · have g1 : ¬ x.at_ < 0 := by first | exact of_decide_eq_false h | exact h | simpa using h
          refine tlm ?_; refine tlm ?_; refine tv (o_ixP Try.underlying22 sz35 rfl rfl (by omega) (by repeat (first | exact nn_rs hr (fun _ => by rw [mcs_len]; omega) | apply Nn.left))) ?_; refine tv (o_faP (m := 0) (o := 2) Try.underlying35 rfl rfl sz5 rfl (nn_rs hr (fun _ => by rw [mcs_len]; omega))) ?_; refine tv (o_ldP p5 rfl (by repeat (first | exact hr | apply Rs.left)) (by rw [mcs_f2 hi])) ?_; refine tl_env (d := 25) (v := .int .u8 (x.gr : Nat)) (by rw [← hx]; rfl) ?_; refine tv (o_gtr rfl rfl) ?_; refine tv (o_pick_f rfl (by conv => lhs; whnf)) ?_; refine nq ?_; refine tc_cond rfl (fun h => ?_) (fun h => ?_)
          · have hok : okM x = false := by first | assumption | unfold okM; first | rw [decide_eq_false (show ¬ 0 ≤ x.at_ by omega), Bool.false_and] | rw [decide_eq_false (show ¬ x.gr ≤ 1 by first | omega | (simp at h; omega)), Bool.and_false]
            refine sr ?_; refine tla ?_; refine nq ?_; refine tc_ret ?_; refine q_then_r (q_block_r (q_then_r (q_then_r (q_block_r (q_then_r ?_))))); refine ⟨.int .i64 190, _, res1 rfl rfl, ?_, (by first | rw [may_bad h32 (hx ▸ List.getElem_mem hi) hok] | rw [may_dup h32 hi (by rw [hx, ← hki]; exact List.mem_map_of_mem (List.mem_take_iff_getElem.2 ⟨k, by omega, rfl⟩))]), rfl⟩; exact Dr.sat (by repeat (first | with_reducible exact dr_refl | apply dr_keep | apply dr_drop))
          · have hok : okM x = true := by unfold okM; rw [decide_eq_true (show 0 ≤ x.at_ by omega), decide_eq_true (show x.gr ≤ 1 by first | omega | (simp at h; omega))]; rfl
            refine tc_skip ?_; refine q_then_n ?_; refine sr ?_; refine tla ?_; refine nq ?_; refine tc_block ?_; refine tc_loop (fun kk ρ BB => ∃ (k : Nat), (k ≤ i) ∧ (∀ y ∈ l.take k, y.id ≠ x.id) ∧ kk = i - k ∧ ρ 4 = .int .i64 (k : Nat) ∧ ρ 0 = .slice a n c ∧ ρ 3 = .int .i64 (i : Nat) ∧ BB = A) (m := i - (0)) ?_ ?_
            · exact ⟨0, by omega, by simp, rfl, rfl, rfl, rfl, rfl⟩
            · intro k ρ B hI
              obtain ⟨k, hq0, hq1, hkk2, hE4, hE0, hE3, hBA⟩ := hI
              obtain rfl := hBA.symm
              refine tc_env (d := 4) hE4 ?_; refine tc_env (d := 0) hE0 ?_; refine tc_env (d := 3) hE3 ?_
              clear hE4 hE0 hE3
              refine tc_seq ?_; refine sr ?_; refine tlm ?_; refine tlm ?_; refine tv (o_lss rfl rfl) ?_; refine nq ?_; refine tc_cond rfl (fun h => ?_) (fun h => ?_)
              · have hki_ : k < i := by first | omega | (simp at h; omega)
                have hk : k < l.length := by omega
                refine tc_skip ?_; refine q_then_n ?_; refine tc_seq ?_; refine tc_block ?_; refine tc_seq ?_; refine tc_regq mo (by kernel_rfl) ?_; refine ql_v rfl (o_move (by conv => lhs; whnf)) ?_; refine ql_v rfl (o_move (by conv => lhs; whnf)) ?_; refine ql_v rfl (o_ixP Try.underlying22 sz35 rfl rfl (by omega) (by repeat (first | exact nn_rs hr (fun _ => by rw [mcs_len]; omega) | apply Nn.left))) ?_; refine ql_v rfl (o_faP (m := 0) (o := 0) Try.underlying35 rfl rfl sz33 rfl (nn_rs hr (fun _ => by rw [mcs_len]; omega))) ?_; refine ql_v rfl (o_ldP p33 rfl (by repeat (first | exact hr | apply Rs.left)) (by rw [mcs_f0 hk])) ?_; refine ql_v rfl (o_move (by conv => lhs; whnf)) ?_; refine ql_v rfl (o_move (by conv => lhs; whnf)) ?_; refine ql_v rfl (o_ixP Try.underlying22 sz35 rfl rfl (by omega) (by repeat (first | exact nn_rs hr (fun _ => by rw [mcs_len]; omega) | apply Nn.left))) ?_; refine ql_v rfl (o_faP (m := 0) (o := 0) Try.underlying35 rfl rfl sz33 rfl (nn_rs hr (fun _ => by rw [mcs_len]; omega))) ?_; refine ql_v rfl (o_ldP p33 rfl (by repeat (first | exact hr | apply Rs.left)) (by rw [mcs_f0 hi])) ?_; refine ql_env (d := 42) (v := .int .u32 (x.id : Nat)) (by rw [← hx]; rfl) ?_; refine ql_v rfl (o_eqi rfl rfl) ?_; refine ql_nil ?_
                refine q_then_n ?_; refine tc_cond rfl (fun h => ?_) (fun h => ?_)
                · have hki : l[k].id = x.id := by first | omega | (simp at h; omega)
                  refine sr ?_; refine tla ?_; refine nq ?_; refine tc_ret ?_; refine q_block_r (q_then_r (q_then_r (q_block_r (q_block_r (q_then_r (q_then_r (q_block_r (q_then_r ?_)))))))); refine ⟨.int .i64 190, _, res1 rfl rfl, ?_, (by first | rw [may_bad h32 (hx ▸ List.getElem_mem hi) hok] | rw [may_dup h32 hi (by rw [hx, ← hki]; exact List.mem_map_of_mem (List.mem_take_iff_getElem.2 ⟨k, by omega, rfl⟩))]), rfl⟩; exact Dr.sat (by repeat (first | with_reducible exact dr_refl | apply dr_keep | apply dr_drop))
                · have hki : l[k].id ≠ x.id := by first | omega | (simp at h; omega)
                  refine tc_skip ?_; refine q_block_n (q_then_n ?_); refine tc_reg ?_; refine tlm ?_; refine tv (by first | exact o_addI rfl rfl (by omega) | exact o_add rfl rfl) ?_; refine tla ?_; refine nq ?_; exact ⟨_, by omega, k + 1, by omega, by rw [List.take_succ_eq_append_getElem hk]; intro y hy; rcases List.mem_append.1 hy with h1 | h1; exact hq1 y h1; rw [List.mem_singleton.1 h1]; exact hki, rfl, rfl, rfl, rfl, rfl⟩
              · have hki : i = k := by first | omega | (simp at h; omega)
                have hnd : x.id ∉ (l.take i).map Mk.id := fun hc => by rw [hki] at hc; obtain ⟨y, hy, e⟩ := List.mem_map.1 hc; exact hq1 y hy e
                refine tc_exit ?_; refine q_then_e (q_then_e (q_block_x (q_block_n (q_then_n ?_)))); refine tc_reg ?_; refine tlm ?_; refine tv (by first | exact o_addI rfl rfl (by omega) | exact o_add rfl rfl) ?_; refine tla ?_; refine nq ?_; exact ⟨_, by omega, i + 1, by omega, by rw [htk, List.all_append, hp1]; simpa using hok, by rw [htm]; exact List.nodup_append.2 ⟨hp2, by simp, fun y hy z hz => by simp only [List.mem_singleton] at hz; subst hz; exact fun e => hnd (e ▸ hy)⟩, rfl, rfl, rfl, rfl⟩
      · try simp only [lv1, lv2, lv3, lv4, lv5, lv6, Bool.not_true, Bool.not_false] at h
        refine tc_exit ?_; refine q_then_e (q_then_e (q_block_x (q_then_n ?_))); refine sr ?_; refine tla ?_; refine nq ?_; refine tc_ret ?_
        have hi : n ≤ i := by first | omega | (simp at h; omega)
        rw [List.take_of_length_le (by omega)] at hp1 hp2
        exact ⟨.int .i64 0, A, res1 rfl rfl, Dr.sat (by repeat (first | with_reducible exact dr_refl | apply dr_keep | apply dr_drop)), by rw [may_ok h32 hp1 hp2], rfl⟩
set_option maxRecDepth 20000 in
set_option maxHeartbeats 2000000 in
theorem rCheck_c {A : SP} {a : Option Addr} {c n : Nat} {l : List Mk} {z : Int} (hr : Rs A a (mcs l) := by repeat (first | assumption | with_reducible exact rs_sl | with_reducible exact rs_pt0 | exact rs_none | apply Rs.left)) (hm : l.length = n := by first | assumption | rfl) (hs : n ≤ 1125899906842624 := by omega) :
    Fn Try.prog 20 #[.slice a n c, .int .i64 z] (A) (fun r B => r = .int .i64 (checkS l z) ∧ A = B) := by
  refine fn_enterW (args := [.slice a n c, .int .i64 z]) Try.func20 rfl Try.ntmps20 (by simp) ?_; refine sr ?_; refine tla ?_; refine nq ?_; refine sr ?_; refine tlm ?_; refine tl_c rfl (o_call bd35 rfl (rMay_c (l := l))) ?_; rintro _ _ ⟨rfl, rfl⟩; refine tla ?_; refine nq ?_; refine tc_seq ?_; refine sr ?_; refine tla ?_; refine nq ?_; refine tc_block ?_; refine tc_loop (fun kk ρ BB => ∃ (i : Nat), (i ≤ n) ∧ (∀ x ∈ l.take i, decide (z < x.at_) = false) ∧ kk = n - i ∧ ρ 6 = .int .i64 (i : Nat) ∧ ρ 0 = .slice a n c ∧ ρ 1 = .int .i64 z ∧ ρ 5 = .int .i64 (mayS l) ∧ BB = A) (m := n - (0)) ?_ ?_
  · exact ⟨0, by omega, by simp, rfl, rfl, rfl, rfl, rfl, rfl⟩
  · intro k ρ B hI
    obtain ⟨i, hp0, hp1, hkk1, hE6, hE0, hE1, hE5, hBA⟩ := hI
    obtain rfl := hBA.symm
    refine tc_env (d := 6) hE6 ?_; refine tc_env (d := 0) hE0 ?_; refine tc_env (d := 1) hE1 ?_; refine tc_env (d := 5) hE5 ?_
    clear hE6 hE0 hE1 hE5
    refine tc_seq ?_; refine sr ?_; refine tlm ?_; refine tlm ?_; refine tv (o_len Try.underlying22 rfl) ?_; refine tv (o_lss rfl rfl) ?_; refine tlm ?_; refine tl_bool (d := 13) rfl (fun h => ?_) (fun h => ?_)
    · have hi : i < l.length := by first | omega | (simp at h; omega)
      refine tlm ?_; refine tv (o_eqi rfl rfl) ?_; refine tv (o_pick_t rfl (by conv => lhs; whnf)) ?_; refine nq ?_; refine tc_cond rfl (fun h => ?_) (fun h => ?_)
      · have hne : mayS l = 0 := by first | omega | (simp at h; omega)
        refine tc_skip ?_; refine q_then_n ?_; refine tc_seq ?_; refine tc_block ?_; refine sr ?_; refine tlm ?_; refine tlm ?_; refine tv (o_ixP Try.underlying22 sz35 rfl rfl (by omega) (by repeat (first | exact nn_rs hr (fun _ => by rw [mcs_len]; omega) | apply Nn.left))) ?_; refine tv (o_faP (m := 0) (o := 1) Try.underlying35 rfl rfl sz3 rfl (nn_rs hr (fun _ => by rw [mcs_len]; omega))) ?_; refine tv (o_ldP p3 rfl (by repeat (first | exact hr | apply Rs.left)) (by rw [mcs_f1 hi])) ?_; refine tlm ?_; refine tv (o_gtr rfl rfl) ?_; refine nq ?_; refine tc_cond rfl (fun h => ?_) (fun h => ?_)
        · have hz : z < l[i].at_ := by first | exact of_decide_eq_true h | exact h | simpa using h
          refine sr ?_; refine tla ?_; refine nq ?_; refine tc_ret ?_; refine q_block_r (q_then_r (q_then_r (q_block_r (q_then_r ?_)))); refine ⟨.int .i64 190, _, res1 rfl rfl, ?_, (by unfold checkS; rw [if_neg (by simpa using hne), if_pos (List.any_eq_true.2 ⟨_, List.getElem_mem hi, decide_eq_true hz⟩)]), rfl⟩; exact Dr.sat (by repeat (first | with_reducible exact dr_refl | apply dr_keep | apply dr_drop))
        · have hz : ¬ z < l[i].at_ := by first | exact of_decide_eq_false h | exact h | simpa using h
          refine tc_skip ?_; refine q_block_n (q_then_n ?_); refine tc_reg ?_; refine tlm ?_; refine tv (by first | exact o_addI rfl rfl (by omega) | exact o_add rfl rfl) ?_; refine tla ?_; refine nq ?_; exact ⟨_, by omega, i + 1, by omega, by rw [List.take_succ_eq_append_getElem hi]; intro y hy; rcases List.mem_append.1 hy with h1 | h1; exact hp1 y h1; rw [List.mem_singleton.1 h1]; exact decide_eq_false hz, rfl, rfl, rfl, rfl, rfl, rfl⟩
      · have hne : mayS l ≠ 0 := by first | omega | (simp at h; omega)
        refine tc_exit ?_; refine q_then_e (q_then_e (q_block_x (q_then_n ?_))); refine sr ?_; refine tlm ?_; refine tla ?_; refine nq ?_; refine tc_ret ?_
        have e0 : checkS l z = mayS l := by
          unfold checkS
          by_cases hc : mayS l ≠ 0
          · rw [if_pos hc]
          · rw [if_neg hc, if_neg]
            · exact (Classical.not_not.1 hc).symm
            · rw [List.any_eq_true]
              rintro ⟨x, hx, hb⟩
              first
              | exact absurd (Classical.not_not.1 hc) hne
              | (rw [List.take_of_length_le (by omega)] at hp1; rw [hp1 x hx] at hb; cases hb)
        exact ⟨.int .i64 (mayS l), A, res1 rfl rfl, Dr.sat (by repeat (first | with_reducible exact dr_refl | apply dr_keep | apply dr_drop)), by rw [e0], rfl⟩
    · have hi : l.length ≤ i := by first | omega | (simp at h; omega)
      refine tk ?_; refine tk ?_; refine tv (o_pick_f rfl (by conv => lhs; whnf)) ?_; refine nq ?_; refine tc_cond_f rfl ?_; refine tc_exit ?_; refine q_then_e (q_then_e (q_block_x (q_then_n ?_))); refine sr ?_; refine tlm ?_; refine tla ?_; refine nq ?_; refine tc_ret ?_
      have e0 : checkS l z = mayS l := by
        unfold checkS
        by_cases hc : mayS l ≠ 0
        · rw [if_pos hc]
        · rw [if_neg hc, if_neg]
          · exact (Classical.not_not.1 hc).symm
          · rw [List.any_eq_true]
            rintro ⟨x, hx, hb⟩
            first
            | exact absurd (Classical.not_not.1 hc) hne
            | (rw [List.take_of_length_le (by omega)] at hp1; rw [hp1 x hx] at hb; cases hb)
      exact ⟨.int .i64 (mayS l), A, res1 rfl rfl, Dr.sat (by repeat (first | with_reducible exact dr_refl | apply dr_keep | apply dr_drop)), by rw [e0], rfl⟩
def cmpB (pl : Bool) : Mk → Mk → Int := if pl then cPl else cId
theorem ntl {α : Type} {lt : α → α → Bool} (hw : SWO lt) {S : List α} {x : α} {w : Nat} (hSd : Sd lt S) (hi : w < S.length) (h : lt x S[w] = false) : ∀ y ∈ S.take (w + 1), lt x y = false := fun y hy => by
  obtain ⟨j, hj, rfl⟩ := List.mem_iff_getElem.1 hy
  rw [List.length_take] at hj
  rw [List.getElem_take]
  exact hw.ntrans _ _ _ (sd_le hw hSd (i := j) (j := w) (by omega) (by omega)) h
theorem mcs_one (l : List Mk) : (mcs l).all oneC = true := by
  rw [List.all_eq_true]
  intro v hv
  obtain ⟨m, _, h2⟩ := List.mem_flatMap.1 hv
  simp only [Mk.cells, List.mem_cons, List.not_mem_nil, or_false] at h2
  rcases h2 with rfl | rfl | rfl <;> rfl
theorem cmpB_swo (pl : Bool) : SWO (ltc (cmpB pl)) := by cases pl; exact cId_swo; exact cPl_swo
theorem ahead_c {A : SP} {x y : Mk} {pl : Bool} :
    Fn Try.prog 58 #[.agg x.cells.toArray, .agg y.cells.toArray, .bool pl] (A) (fun r B => r = .bool (ltc (cmpB pl) x y) ∧ A = B) := by
  refine fn_enterW (args := [.agg x.cells.toArray, .agg y.cells.toArray, .bool pl]) Try.func58 rfl Try.ntmps58 (by simp) ?_; refine sr ?_; refine tl_x rfl (o_box rfl rfl) ?_; rintro _ _ ⟨b3, rfl, rfl⟩; refine tl_x rfl (o_box rfl rfl) ?_; rintro _ _ ⟨b4, rfl, rfl⟩; refine tla ?_; refine nq ?_; refine tc_seq ?_; refine sr ?_; refine tlm ?_; refine tlm ?_; refine tl_bool (d := 8) rfl (fun h => ?_) (fun h => ?_)
  · have hpl : pl = true := by first | exact h | simpa using h
    refine tv (o_fieldAddr (o := 1) Try.underlying35 rfl rfl sz3 rfl) ?_; refine tv (by first | exact o_load p3 rfl (by repeat (first | with_reducible exact has_here | with_reducible exact has_pt | apply has_left)) rfl | exact o_loadC p3 rfl (by assumption)) ?_; refine tv (o_fieldAddr (o := 1) Try.underlying35 rfl rfl sz3 rfl) ?_; refine tv (by first | exact o_load p3 rfl (by repeat (first | with_reducible exact has_here | with_reducible exact has_pt | apply has_left)) rfl | exact o_loadC p3 rfl (by assumption)) ?_; refine tv (o_nei rfl rfl) ?_; refine tv (o_pick_t rfl (by conv => lhs; whnf)) ?_; refine nq ?_; refine tc_cond rfl (fun h => ?_) (fun h => ?_)
    · have hat : x.at_ ≠ y.at_ := by first | exact of_decide_eq_true h | exact h | simpa using h
      refine sr ?_; refine tv (o_fieldAddr (o := 1) Try.underlying35 rfl rfl sz3 rfl) ?_; refine tv (by first | exact o_load p3 rfl (by repeat (first | with_reducible exact has_here | with_reducible exact has_pt | apply has_left)) rfl | exact o_loadC p3 rfl (by assumption)) ?_; refine tv (o_fieldAddr (o := 1) Try.underlying35 rfl rfl sz3 rfl) ?_; refine tv (by first | exact o_load p3 rfl (by repeat (first | with_reducible exact has_here | with_reducible exact has_pt | apply has_left)) rfl | exact o_loadC p3 rfl (by assumption)) ?_; refine tv (o_lss rfl rfl) ?_; refine tla ?_; refine nq ?_; refine tc_ret ?_; refine q_then_r ?_; exact ⟨.bool (decide (x.at_ < y.at_)), A, res1 rfl rfl, Dr.sat (by repeat (first | with_reducible exact dr_refl | apply dr_keep | apply dr_drop)), by subst hpl; show _ = Value.bool (ltc cPl x y); rw [cPl_neg]; congr 1; rw [decide_eq_decide]; omega, rfl⟩
    · try have hat : x.at_ = y.at_ := by first | exact h | (have := of_decide_eq_false h; omega) | simpa using h
      refine tc_skip ?_; refine q_then_n ?_; refine sr ?_; refine tv (o_fieldAddr (o := 0) Try.underlying35 rfl rfl sz33 rfl) ?_; refine tv (by first | exact o_load p33 rfl (by repeat (first | with_reducible exact has_here | with_reducible exact has_pt | apply has_left)) rfl | exact o_loadC p33 rfl (by assumption)) ?_; refine tv (o_fieldAddr (o := 0) Try.underlying35 rfl rfl sz33 rfl) ?_; refine tv (by first | exact o_load p33 rfl (by repeat (first | with_reducible exact has_here | with_reducible exact has_pt | apply has_left)) rfl | exact o_loadC p33 rfl (by assumption)) ?_; refine tv (o_lss rfl rfl) ?_; refine tla ?_; refine nq ?_; refine tc_ret ?_; exact ⟨.bool (decide ((x.id : Int) < (y.id : Int))), A, res1 rfl rfl, Dr.sat (by repeat (first | with_reducible exact dr_refl | apply dr_keep | apply dr_drop)), by subst hpl; first | (show _ = Value.bool (ltc cPl x y); rw [cPl_neg]; congr 1; rw [decide_eq_decide]; omega) | (show _ = Value.bool (ltc cId x y); rw [cId_neg]; congr 1; rw [decide_eq_decide]; omega), rfl⟩
  · have hpl : pl = false := by first | exact h | simpa using h
    refine tk ?_; refine tk ?_; refine tk ?_; refine tk ?_; refine tk ?_; refine tv (o_pick_f rfl (by conv => lhs; whnf)) ?_; refine nq ?_; refine tc_cond_f rfl ?_; refine tc_skip ?_; refine q_then_n ?_; refine sr ?_; refine tv (o_fieldAddr (o := 0) Try.underlying35 rfl rfl sz33 rfl) ?_; refine tv (by first | exact o_load p33 rfl (by repeat (first | with_reducible exact has_here | with_reducible exact has_pt | apply has_left)) rfl | exact o_loadC p33 rfl (by assumption)) ?_; refine tv (o_fieldAddr (o := 0) Try.underlying35 rfl rfl sz33 rfl) ?_; refine tv (by first | exact o_load p33 rfl (by repeat (first | with_reducible exact has_here | with_reducible exact has_pt | apply has_left)) rfl | exact o_loadC p33 rfl (by assumption)) ?_; refine tv (o_lss rfl rfl) ?_; refine tla ?_; refine nq ?_; refine tc_ret ?_; exact ⟨.bool (decide ((x.id : Int) < (y.id : Int))), A, res1 rfl rfl, Dr.sat (by repeat (first | with_reducible exact dr_refl | apply dr_keep | apply dr_drop)), by subst hpl; first | (show _ = Value.bool (ltc cPl x y); rw [cPl_neg]; congr 1; rw [decide_eq_decide]; omega) | (show _ = Value.bool (ltc cId x y); rw [cId_neg]; congr 1; rw [decide_eq_decide]; omega), rfl⟩
set_option maxRecDepth 20000 in
set_option maxHeartbeats 2000000 in
theorem sorted_c {A : SP} {a : Option Addr} {c n : Nat} {l : List Mk} {pl : Bool} (hr : Rs A a (mcs l) := by repeat (first | assumption | with_reducible exact rs_sl | with_reducible exact rs_pt0 | exact rs_none | apply Rs.left)) (hm : l.length = n := by first | assumption | rfl) (hs : n ≤ 5864062014800 := by omega) :
    Fn Try.prog 38 #[.slice a n c, .bool pl] (A) (fun r B => ∃ a2 c2, r = .slice a2 n c2 ∧ n ≤ c2 ∧ B = A * Sl 3 (.slice a2 n c2) n (mcs (srt (ltc (cmpB pl)) l))) := by
  refine fn_enterW (args := [.slice a n c, .bool pl]) Try.func38 rfl Try.ntmps38 (by simp) ?_
  have hw := cmpB_swo pl
  refine sr ?_; refine tla ?_; refine nq ?_; refine sr ?_; refine tla ?_; refine nq ?_; refine tc_seq ?_; refine tc_seq ?_; refine tc_pre (A' := A * Sl 3 (.slice none 0 0) 0 (mcs (srt (ltc (cmpB pl)) (l.take 0)))) (fun _ _ h => sl_nil h) ?_; refine tc_reg ?_; refine tla ?_; refine nq ?_; refine tc_block ?_; refine tc_loop (fun kk ρ BB => ∃ (i : Nat) (a5 : Option Addr) (c5 : Nat), (i ≤ n) ∧ (i ≤ c5) ∧ kk = n - i ∧ ρ 5 = .slice a5 i c5 ∧ ρ 6 = .int .i64 (i : Nat) ∧ ρ 0 = .slice a n c ∧ ρ 1 = .bool pl ∧ Dr BB (A * Sl 3 (.slice a5 i c5) i (mcs (srt (ltc (cmpB pl)) (l.take i))))) (m := n - (0)) ?_ ?_
  · exact ⟨0, none, 0, by omega, by omega, rfl, rfl, rfl, rfl, rfl, (by repeat (first | with_reducible exact dr_refl | apply dr_keep | apply dr_drop))⟩
  · intro k ρ B hI
    obtain ⟨i, a5, c5, hp0, hp1, hkk1, hE5, hE6, hE0, hE1, hBA⟩ := hI
    refine tc_pre hBA.sat ?_
    clear hBA
    refine tc_env (d := 5) hE5 ?_; refine tc_env (d := 6) hE6 ?_; refine tc_env (d := 0) hE0 ?_; refine tc_env (d := 1) hE1 ?_
    clear hE5 hE6 hE0 hE1
    refine tc_seq ?_; refine sr ?_; refine tlm ?_; refine tlm ?_; refine tv (o_len Try.underlying22 rfl) ?_; refine tv (o_lss rfl rfl) ?_; refine nq ?_; refine tc_cond rfl (fun h => ?_) (fun h => ?_)
    · have hi : i < l.length := by first | omega | (simp at h; omega)
      obtain ⟨x, hx⟩ : ∃ x, l[i] = x := ⟨_, rfl⟩
      have htk : l.take (i + 1) = l.take i ++ [x] := by rw [List.take_succ_eq_append_getElem hi, hx]
      have hSl : (srt (ltc (cmpB pl)) (l.take i)).length = i := by rw [srt_length hw, List.length_take]; omega
      obtain ⟨S, hS⟩ : ∃ S, srt (ltc (cmpB pl)) (l.take i) = S := ⟨_, rfl⟩
      rw [hS] at hSl
      refine tc_eq (show _ = A * Sl 3 (.slice a5 i c5) i (mcs S) by rw [hS]) ?_
      have hSd : Sd (ltc (cmpB pl)) S := hS ▸ (srt_ss hw _).sd
      refine tc_skip ?_; refine q_then_n ?_; refine tc_seq ?_; refine tc_block ?_; refine sr ?_; refine tlm ?_; refine tv (o_len Try.underlying22 rfl) ?_; refine tla ?_; refine nq ?_; refine tc_seq ?_; refine tc_block ?_; refine tc_loop (fun kk ρ BB => ∃ (k : Nat), (k ≤ i) ∧ (∀ y ∈ S.drop k, ltc (cmpB pl) x y = true) ∧ kk = k ∧ ρ 7 = .int .i64 (k : Nat) ∧ ρ 0 = .slice a n c ∧ ρ 1 = .bool pl ∧ ρ 5 = .slice a5 i c5 ∧ ρ 6 = .int .i64 (i : Nat) ∧ BB = A * Sl 3 (.slice a5 i c5) i (mcs S)) (m := (i)) ?_ ?_
      · exact ⟨i, by omega, by rw [List.drop_of_length_le (by omega)]; simp, rfl, rfl, rfl, rfl, rfl, rfl, rfl⟩
      · intro k ρ B hI
        obtain ⟨k, hq0, hq1, hkk2, hE7, hE0, hE1, hE5, hE6, rfl⟩ := hI
        refine tc_env (d := 7) hE7 ?_; refine tc_env (d := 0) hE0 ?_; refine tc_env (d := 1) hE1 ?_; refine tc_env (d := 5) hE5 ?_; refine tc_env (d := 6) hE6 ?_
        clear hE7 hE0 hE1 hE5 hE6
        refine tc_seq ?_; refine tc_seq ?_; refine tc_regq mo (by kernel_rfl) ?_; refine ql_v rfl (o_move (by conv => lhs; whnf)) ?_; refine ql_v rfl (o_gtr rfl rfl) ?_; refine ql_v rfl (o_move (by conv => lhs; whnf)) ?_; refine ql_bool (d := 19) rfl (fun h => ?_) (fun h => ?_)
        · obtain ⟨w_, rfl⟩ : ∃ w, k = w + 1 := ⟨k - 1, by first | omega | (simp at h; omega)⟩
          refine ql_v rfl (o_move (by conv => lhs; whnf)) ?_; refine ql_v rfl (o_move (by conv => lhs; whnf)) ?_; refine ql_v rfl (o_ixP Try.underlying22 sz35 rfl rfl (by omega) (by repeat (first | exact nn_rs hr (fun _ => by rw [mcs_len]; omega) | apply Nn.left))) ?_; refine ql_v rfl (o_ldPN (vs := (x).cells) a35 sz35 rfl (by repeat (first | exact hr | apply Rs.left)) (by rw [mcs_at (by omega), hx]) rfl (by decide)) ?_; refine ql_v rfl (o_move (by conv => lhs; whnf)) ?_; refine ql_v rfl (o_move (by conv => lhs; whnf)) ?_; refine ql_v rfl (by first | exact o_subI rfl rfl (by omega) | exact o_sub rfl rfl) ?_; refine ql_env (d := 26) (v := .int .i64 (w_ : Nat)) (by show Value.int .i64 _ = _; congr 1; omega) ?_; refine ql_v rfl (o_ixP Try.underlying22 sz35 rfl rfl (by omega) (by repeat (first | exact nn_sl (by decide) | apply Nn.left))) ?_; refine ql_v rfl (o_ldPN (vs := (S[w_]'(by omega)).cells) a35 sz35 rfl (by repeat (first | with_reducible exact rs_sl | apply Rs.left)) (mcs_at (by omega)) rfl (by decide)) ?_; refine ql_v rfl (o_move (by conv => lhs; whnf)) ?_; refine ql_c rfl (fun w => exec_call bd58 rfl) (ahead_c (x := x) (y := S[w_]'(by omega)) (pl := pl)) ?_; refine ql_v rfl (o_pick_t rfl (by conv => lhs; whnf)) ?_; refine ql_nil ?_; refine q_then_n ?_; refine tc_cond rfl (fun h => ?_) (fun h => ?_)
          · have hgt : ∀ y ∈ S.drop w_, ltc (cmpB pl) x y = true := by rw [List.drop_eq_getElem_cons (by omega)]; intro y hy; rcases List.mem_cons.1 hy with h1 | h1; all_goals first | exact hq1 y h1 | (rw [h1]; first | exact h | simpa using h)
            refine tc_skip ?_; refine q_then_n ?_; refine tc_block ?_; refine tc_reg ?_; refine tlm ?_; refine tv (by first | exact o_subI rfl rfl (by omega) | exact o_sub rfl rfl) ?_; refine tl_env (d := 33) (v := .int .i64 (w_ : Nat)) (by show Value.int .i64 _ = _; congr 1; omega) ?_; refine tla ?_; refine tl_nil ?_; refine q_block_n (q_then_n ?_); exact ⟨_, by omega, w_, by omega, hgt, rfl, rfl, rfl, rfl, rfl, rfl, rfl⟩
          · have hle : ∀ y ∈ S.take (w_ + 1), ltc (cmpB pl) x y = false := fun y hy => ntl hw hSd (by omega) (by first | exact h | simpa using h) y hy
            have hex : ∃ k0 : Nat, w_ + 1 = k0 ∧ k0 ≤ i ∧ (∀ y ∈ S.drop k0, ltc (cmpB pl) x y = true) ∧ (∀ y ∈ S.take k0, ltc (cmpB pl) x y = false) := ⟨_, rfl, hq0, hq1, hle⟩
            refine tc_exit ?_; refine q_then_e (q_then_e (q_block_x (q_then_n ?_))); refine tc_seq ?_
            obtain ⟨kk, hke, hk, hgt, hle⟩ := hex
            refine tc_env (d := 7) (v := .int .i64 (kk : Nat)) (congrArg (fun z : Nat => Value.int .i64 (z : Int)) hke) ?_
            have hnx : srt (ltc (cmpB pl)) (l.take (i + 1)) = S.take kk ++ [x] ++ S.drop kk := by rw [htk, srt_snoc, hS, mg_one_r hle hgt]
            refine tc_reg ?_; refine tla ?_; refine nq ?_; refine sr ?_; refine tlm ?_; refine tlm ?_; refine tlm ?_; refine tv (o_slice (l := 0) (h := kk) Try.underlying22 sz35 rfl bnd_none (bnd_nat rfl) (by omega) (by omega)) ?_; refine tl_env (d := 37) (v := .slice a5 kk c5) (by show Value.slice (cutAddr _ _ 0 3) (kk - 0) (c5 - 0) = _; rw [show cutAddr a5 c5 0 3 = a5 by unfold cutAddr; cases a5 <;> simp [Addr.add]]; rfl) ?_; refine tl_x rfl (o_apN Try.underlying22 Try.underlying22 sz35 by35 z35 rfl (by decide) (by decide) rfl rfl (ys := mcs (S.take kk)) (by rw [← mcs_take]; exact rs_sl.sub (kk * 3)) (by rw [mcs_len, List.length_take]; omega) (mcs_one _) (by omega)) ?_; rintro _ _ ⟨a38, c38, rfl, hc38, rfl⟩; refine tla ?_; refine nq ?_; refine sr ?_; refine tlm ?_; refine tlm ?_; refine tlm ?_; refine tv (o_ixP Try.underlying22 sz35 rfl rfl (by omega) (by repeat (first | exact nn_rs hr (fun _ => by rw [mcs_len]; omega) | apply Nn.left))) ?_; refine tv (o_ldPN (vs := (x).cells) a35 sz35 rfl (by repeat (first | exact hr | apply Rs.left)) (by rw [mcs_at (by omega), hx]) rfl (by decide)) ?_; refine tl_x rfl (o_buildSliceK (k := 3) (l := x.cells) Try.underlying22 sz35 z35 rfl rfl (by decide)) ?_
            rintro _ _ ⟨b44, rfl, rfl⟩; refine tl_x rfl (o_apB Try.underlying22 Try.underlying22 sz35 by35 z35 rfl (by decide) (by decide) rfl rfl rfl (by repeat (first | with_reducible exact ct_here | apply ct_left)) rfl rfl (by omega) (show _ = mcs (S.take kk ++ [x]) by rw [mcs_append]; rfl)) ?_; rintro _ _ ⟨a45, c45, rfl, hc45, rfl⟩; refine tla ?_; refine nq ?_; refine tc_reg ?_; refine tlm ?_; refine tlm ?_; refine tlm ?_; refine tv (o_slice (l := kk) (h := i) Try.underlying22 sz35 rfl (bnd_nat rfl) bnd_none (by omega) (by omega)) ?_; refine tl_env (d := 49) (v := .slice (cutAddr a5 c5 kk 3) (i - kk) (c5 - kk)) (rfl) ?_; refine tl_x rfl (o_apR Try.underlying22 Try.underlying22 sz35 by35 z35 rfl (by decide) (by decide) rfl rfl (by repeat (first | with_reducible exact ct_here | apply ct_left)) (ys := mcs (S.drop kk)) (zs := mcs (S.take kk ++ [x] ++ S.drop kk)) (by rw [← mcs_drop]; exact rs_cut (by repeat (first | with_reducible exact rs_sl | apply Rs.left)) (by rw [mcs_len]; omega)) (by rw [mcs_len, List.length_drop]; omega) (mcs_one _) (by omega) (by rw [← mcs_append])) ?_; rintro _ _ ⟨a50, c50, rfl, hc50, rfl⟩
            rw [show kk + 1 + (i - kk) = i + 1 by omega] at hc50 ⊢
            rw [← hnx]
            refine tla ?_; refine tl_nil ?_; refine q_block_n (q_then_n ?_); refine tc_reg ?_; refine tlm ?_; refine tv (by first | exact o_addI rfl rfl (by omega) | exact o_add rfl rfl) ?_; refine tla ?_; refine nq ?_; exact ⟨_, by omega, i + 1, a50, c50, by omega, hc50, rfl, rfl, rfl, rfl, rfl, (by repeat (first | with_reducible exact dr_refl | apply dr_keep | apply dr_drop))⟩
        · have hle : ∀ y ∈ S.take k, ltc (cmpB pl) x y = false := by rw [show k = 0 by first | omega | (simp at h; omega)]; simp
          have hex : ∃ k0 : Nat, k = k0 ∧ k0 ≤ i ∧ (∀ y ∈ S.drop k0, ltc (cmpB pl) x y = true) ∧ (∀ y ∈ S.take k0, ltc (cmpB pl) x y = false) := ⟨_, rfl, hq0, hq1, hle⟩
          refine ql_skip rfl ?_; refine ql_skip rfl ?_; refine ql_skip rfl ?_; refine ql_skip rfl ?_; refine ql_skip rfl ?_; refine ql_skip rfl ?_; refine ql_skip rfl ?_; refine ql_skip rfl ?_; refine ql_skip rfl ?_; refine ql_skip rfl ?_; refine ql_skip rfl ?_; refine ql_v rfl (o_pick_f rfl (by conv => lhs; whnf)) ?_; refine ql_nil ?_; refine q_then_n ?_; refine tc_cond_f rfl ?_; refine tc_exit ?_; refine q_then_e (q_then_e (q_block_x (q_then_n ?_))); refine tc_seq ?_
          obtain ⟨kk, hke, hk, hgt, hle⟩ := hex
          refine tc_env (d := 7) (v := .int .i64 (kk : Nat)) (congrArg (fun z : Nat => Value.int .i64 (z : Int)) hke) ?_
          have hnx : srt (ltc (cmpB pl)) (l.take (i + 1)) = S.take kk ++ [x] ++ S.drop kk := by rw [htk, srt_snoc, hS, mg_one_r hle hgt]
          refine tc_reg ?_; refine tla ?_; refine nq ?_; refine sr ?_; refine tlm ?_; refine tlm ?_; refine tlm ?_; refine tv (o_slice (l := 0) (h := kk) Try.underlying22 sz35 rfl bnd_none (bnd_nat rfl) (by omega) (by omega)) ?_; refine tl_env (d := 37) (v := .slice a5 kk c5) (by show Value.slice (cutAddr _ _ 0 3) (kk - 0) (c5 - 0) = _; rw [show cutAddr a5 c5 0 3 = a5 by unfold cutAddr; cases a5 <;> simp [Addr.add]]; rfl) ?_; refine tl_x rfl (o_apN Try.underlying22 Try.underlying22 sz35 by35 z35 rfl (by decide) (by decide) rfl rfl (ys := mcs (S.take kk)) (by rw [← mcs_take]; exact rs_sl.sub (kk * 3)) (by rw [mcs_len, List.length_take]; omega) (mcs_one _) (by omega)) ?_; rintro _ _ ⟨a38, c38, rfl, hc38, rfl⟩; refine tla ?_; refine nq ?_; refine sr ?_; refine tlm ?_; refine tlm ?_; refine tlm ?_; refine tv (o_ixP Try.underlying22 sz35 rfl rfl (by omega) (by repeat (first | exact nn_rs hr (fun _ => by rw [mcs_len]; omega) | apply Nn.left))) ?_; refine tv (o_ldPN (vs := (x).cells) a35 sz35 rfl (by repeat (first | exact hr | apply Rs.left)) (by rw [mcs_at (by omega), hx]) rfl (by decide)) ?_; refine tl_x rfl (o_buildSliceK (k := 3) (l := x.cells) Try.underlying22 sz35 z35 rfl rfl (by decide)) ?_
          rintro _ _ ⟨b44, rfl, rfl⟩; refine tl_x rfl (o_apB Try.underlying22 Try.underlying22 sz35 by35 z35 rfl (by decide) (by decide) rfl rfl rfl (by repeat (first | with_reducible exact ct_here | apply ct_left)) rfl rfl (by omega) (show _ = mcs (S.take kk ++ [x]) by rw [mcs_append]; rfl)) ?_; rintro _ _ ⟨a45, c45, rfl, hc45, rfl⟩; refine tla ?_; refine nq ?_; refine tc_reg ?_; refine tlm ?_; refine tlm ?_; refine tlm ?_; refine tv (o_slice (l := kk) (h := i) Try.underlying22 sz35 rfl (bnd_nat rfl) bnd_none (by omega) (by omega)) ?_; refine tl_env (d := 49) (v := .slice (cutAddr a5 c5 kk 3) (i - kk) (c5 - kk)) (rfl) ?_; refine tl_x rfl (o_apR Try.underlying22 Try.underlying22 sz35 by35 z35 rfl (by decide) (by decide) rfl rfl (by repeat (first | with_reducible exact ct_here | apply ct_left)) (ys := mcs (S.drop kk)) (zs := mcs (S.take kk ++ [x] ++ S.drop kk)) (by rw [← mcs_drop]; exact rs_cut (by repeat (first | with_reducible exact rs_sl | apply Rs.left)) (by rw [mcs_len]; omega)) (by rw [mcs_len, List.length_drop]; omega) (mcs_one _) (by omega) (by rw [← mcs_append])) ?_; rintro _ _ ⟨a50, c50, rfl, hc50, rfl⟩
          rw [show kk + 1 + (i - kk) = i + 1 by omega] at hc50 ⊢
          rw [← hnx]
          refine tla ?_; refine tl_nil ?_; refine q_block_n (q_then_n ?_); refine tc_reg ?_; refine tlm ?_; refine tv (by first | exact o_addI rfl rfl (by omega) | exact o_add rfl rfl) ?_; refine tla ?_; refine nq ?_; exact ⟨_, by omega, i + 1, a50, c50, by omega, hc50, rfl, rfl, rfl, rfl, rfl, (by repeat (first | with_reducible exact dr_refl | apply dr_keep | apply dr_drop))⟩
    · try simp only [lv1, lv2, lv3, lv4, lv5, lv6, Bool.not_true, Bool.not_false] at h
      refine tc_exit ?_; refine q_then_e (q_then_e (q_block_x (q_then_n ?_))); refine sr ?_; refine tlm ?_; refine tla ?_; refine nq ?_; refine tc_ret ?_
      have hi : i = n := by first | omega | (simp at h; omega)
      subst hi
      exact ⟨.slice a5 i c5, A * Sl 3 (.slice a5 i c5) i (mcs (srt (ltc (cmpB pl)) l)), res1 rfl rfl, fun _ _ h => by have h2 := Dr.sat (A' := A * Sl 3 (.slice a5 i c5) i (mcs (srt (ltc (cmpB pl)) (l.take i)))) (by repeat (first | with_reducible exact dr_refl | apply dr_keep | apply dr_drop)) _ _ h; rwa [List.take_of_length_le (by omega)] at h2, a5, c5, rfl, hp1, rfl⟩
end Go.Vl

set_option linter.unusedVariables false
set_option linter.unusedSimpArgs false
namespace Go.Vl
open Go Go.Proofs
attribute [local irreducible] Sl pt ro SlB
set_option maxRecDepth 20000 in
set_option maxHeartbeats 2000000 in
theorem rSet_c {A : SP} {a : Option Addr} {c n : Nat} {l : List Mk} {m : Mk} (hr : Rs A a (mcs l) := by repeat (first | assumption | with_reducible exact rs_sl | with_reducible exact rs_pt0 | exact rs_none | apply Rs.left)) (hm : l.length = n := by first | assumption | rfl) (hs : n ≤ 5864062014800 := by omega) :
    Fn Try.prog 22 #[.slice a n c, .agg m.cells.toArray] (A) (fun r B => ∃ a2 c2, r = .tuple #[.slice a2 (setS l m).1.length c2, .int .i64 (setS l m).2] ∧ (setS l m).1.length ≤ c2 ∧ B = A * Sl 3 (.slice a2 (setS l m).1.length c2) (setS l m).1.length (mcs (setS l m).1)) := by
  refine fn_enterW (args := [.slice a n c, .agg m.cells.toArray]) Try.func22 rfl Try.ntmps22 (by simp) ?_; refine sr ?_; refine tl_x rfl (o_box rfl rfl) ?_; rintro _ _ ⟨b3, rfl, rfl⟩; refine tla ?_; refine tla ?_; refine nq ?_; refine sr ?_; refine tlm ?_; refine tl_c rfl (o_call bd35 rfl (rMay_c (l := l))) ?_; rintro _ _ ⟨rfl, rfl⟩; refine tla ?_; refine nq ?_; refine tc_seq ?_; refine sr ?_; refine tlm ?_; refine tv (o_nei rfl rfl) ?_; refine nq ?_; refine tc_cond rfl (fun h => ?_) (fun h => ?_)
  · have hne : mayS l ≠ 0 := by first | omega | (simp at h; omega)
    refine sr ?_; refine tlm ?_; refine tla ?_; refine tla ?_; refine nq ?_; refine tc_ret ?_; refine q_then_r ?_
    have e0 : setS l m = ([], mayS l) := by unfold setS; rw [if_pos hne]
    rw [e0]
    exact ⟨.tuple #[.slice none 0 0, .int .i64 (mayS l)], A * Sl 3 (.slice none 0 0) 0 [], res2 rfl rfl rfl, fun _ _ h => sl_nil (Dr.sat (by repeat (first | with_reducible exact dr_refl | apply dr_keep | apply dr_drop)) _ _ h), none, 0, rfl, Nat.le_refl _, rfl⟩
  · have hne : mayS l = 0 := by first | omega | (simp at h; omega)
    have h32 := (may_zero hne).1
    refine tc_skip ?_; refine q_then_n ?_; refine tc_seq ?_; refine sr ?_; refine tv (o_fieldAddr (o := 1) Try.underlying35 rfl rfl sz3 rfl) ?_; refine tv (by first | exact o_load p3 rfl (by repeat (first | with_reducible exact has_here | with_reducible exact has_pt | apply has_left)) rfl | exact o_loadC p3 rfl (by assumption)) ?_; refine tv (o_lss rfl rfl) ?_; refine tlm ?_; refine tl_bool (d := 17) rfl (fun h => ?_) (fun h => ?_)
    · have g1 : m.at_ < 0 := by first | exact of_decide_eq_true h | exact h | simpa using h
      have hok : okM m = false := by unfold okM; rw [decide_eq_false (show ¬ 0 ≤ m.at_ by omega), Bool.false_and]
      refine tk ?_; refine tk ?_; refine tk ?_; refine tv (o_pick_t rfl (by conv => lhs; whnf)) ?_; refine nq ?_; refine tc_cond_t rfl ?_; refine sr ?_; refine tla ?_; refine tla ?_; refine nq ?_; refine tc_ret ?_; refine q_then_r ?_
      have e0 : setS l m = ([], 190) := by unfold setS; rw [if_neg (by simpa using hne), if_pos hok]
      rw [e0]
      exact ⟨.tuple #[.slice none 0 0, .int .i64 (190)], A * Sl 3 (.slice none 0 0) 0 [], res2 rfl rfl rfl, fun _ _ h => sl_nil (Dr.sat (by repeat (first | with_reducible exact dr_refl | apply dr_keep | apply dr_drop)) _ _ h), none, 0, rfl, Nat.le_refl _, rfl⟩
    · have g1 : ¬ m.at_ < 0 := by first | exact of_decide_eq_false h | exact h | simpa using h
      refine tv (o_fieldAddr (o := 2) Try.underlying35 rfl rfl sz5 rfl) ?_; refine tv (by first | exact o_load p5 rfl (by repeat (first | with_reducible exact has_here | with_reducible exact has_pt | apply has_left)) rfl | exact o_loadC p5 rfl (by assumption)) ?_; refine tv (o_gtr rfl rfl) ?_; refine tv (o_pick_f rfl (by conv => lhs; whnf)) ?_; refine nq ?_; refine tc_cond rfl (fun h => ?_) (fun h => ?_)
      · have hok : okM m = false := by first | assumption | unfold okM; rw [decide_eq_false (show ¬ m.gr ≤ 1 by first | omega | (simp at h; omega)), Bool.and_false]
        refine sr ?_; refine tla ?_; refine tla ?_; refine nq ?_; refine tc_ret ?_; refine q_then_r ?_
        have e0 : setS l m = ([], 190) := by unfold setS; rw [if_neg (by simpa using hne), if_pos hok]
        rw [e0]
        exact ⟨.tuple #[.slice none 0 0, .int .i64 (190)], A * Sl 3 (.slice none 0 0) 0 [], res2 rfl rfl rfl, fun _ _ h => sl_nil (Dr.sat (by repeat (first | with_reducible exact dr_refl | apply dr_keep | apply dr_drop)) _ _ h), none, 0, rfl, Nat.le_refl _, rfl⟩
      · have hok : okM m = true := by unfold okM; rw [decide_eq_true (show 0 ≤ m.at_ by omega), decide_eq_true (show m.gr ≤ 1 by first | omega | (simp at h; omega))]; rfl
        refine tc_skip ?_; refine q_then_n ?_; refine sr ?_; refine tla ?_; refine nq ?_; refine tc_seq ?_; refine sr ?_; refine tla ?_; refine nq ?_; refine tc_block ?_; refine tc_pre (A' := A * pt b3 (cl m.cells 35) * Sl 3 (.slice none 0 0) 0 (mcs (outM m.id (l.take 0)))) (fun _ _ h => sl_nil (Dr.sat (by repeat (first | with_reducible exact dr_refl | apply dr_keep | apply dr_drop)) _ _ h)) ?_; refine tc_loop (fun kk ρ BB => ∃ (i : Nat) (q : Nat) (a7 : Option Addr) (c7 : Nat), (i ≤ n) ∧ (q = (outM m.id (l.take i)).length) ∧ (q ≤ i) ∧ kk = n - i ∧ ρ 7 = .slice a7 q c7 ∧ ρ 8 = .int .i64 (i : Nat) ∧ ρ 0 = .slice a n c ∧ ρ 3 = .pointer (some ⟨b3, 0, none⟩) ∧ Dr BB (A * pt b3 (cl m.cells 35) * Sl 3 (.slice a7 q c7) q (mcs (outM m.id (l.take i))))) (m := n - (0)) ?_ ?_
        · exact ⟨0, 0, none, 0, by omega, rfl, by omega, rfl, rfl, rfl, rfl, rfl, (by repeat (first | with_reducible exact dr_refl | apply dr_keep | apply dr_drop))⟩
        · intro k ρ B hI
          obtain ⟨i, q, a7, c7, hp0, hp1, hp2, hkk1, hE7, hE8, hE0, hE3, hBA⟩ := hI
          refine tc_pre hBA.sat ?_
          clear hBA
          refine tc_env (d := 7) hE7 ?_; refine tc_env (d := 8) hE8 ?_; refine tc_env (d := 0) hE0 ?_; refine tc_env (d := 3) hE3 ?_
          clear hE7 hE8 hE0 hE3
          refine tc_seq ?_; refine sr ?_; refine tlm ?_; refine tlm ?_; refine tv (o_len Try.underlying22 rfl) ?_; refine tv (o_lss rfl rfl) ?_; refine nq ?_; refine tc_cond rfl (fun h => ?_) (fun h => ?_)
          · have hi : i < l.length := by first | omega | (simp at h; omega)
            obtain ⟨x, hx⟩ : ∃ x, l[i] = x := ⟨_, rfl⟩
            have htk : l.take (i + 1) = l.take i ++ [x] := by rw [List.take_succ_eq_append_getElem hi, hx]
            refine tc_skip ?_; refine q_then_n ?_; refine tc_seq ?_; refine tc_block ?_; refine tc_seq ?_; refine tc_regq mo (by kernel_rfl) ?_; refine ql_v rfl (o_move (by conv => lhs; whnf)) ?_; refine ql_v rfl (o_move (by conv => lhs; whnf)) ?_; refine ql_v rfl (o_ixP Try.underlying22 sz35 rfl rfl (by omega) (by repeat (first | exact nn_rs hr (fun _ => by rw [mcs_len]; omega) | apply Nn.left))) ?_; refine ql_v rfl (o_faP (m := 0) (o := 0) Try.underlying35 rfl rfl sz33 rfl (nn_rs (by repeat (first | exact hr | apply Rs.left)) (fun _ => by rw [mcs_len]; omega))) ?_; refine ql_v rfl (o_ldP p33 rfl (by repeat (first | exact hr | apply Rs.left)) (by rw [mcs_f0 hi])) ?_; refine ql_env (d := 32) (v := .int .u32 (x.id : Nat)) (by rw [← hx]; rfl) ?_; refine ql_v rfl (o_fieldAddr (o := 0) Try.underlying35 rfl rfl sz33 rfl) ?_; refine ql_v rfl (by first | exact o_load p33 rfl (by repeat (first | with_reducible exact has_here | with_reducible exact has_pt | apply has_left)) rfl | exact o_loadC p33 rfl (by assumption)) ?_; refine ql_v rfl (o_nei rfl rfl) ?_; refine ql_nil ?_; refine q_then_n ?_; refine tc_cond rfl (fun h => ?_) (fun h => ?_)
            · have hxm : x.id ≠ m.id := by first | omega | (simp at h; omega)
              have hL_ : outM m.id (l.take (i + 1)) = outM m.id (l.take i) ++ [x] := by rw [htk]; unfold outM; rw [List.filter_append, List.filter_cons_of_pos (by simpa using hxm)]; rfl
              have hq_ : q + 1 = (outM m.id (l.take (i + 1))).length := by rw [hL_, List.length_append, ← hp1]; rfl
              refine tc_reg ?_; refine tlm ?_; refine tlm ?_; refine tlm ?_; refine tv (o_ixP Try.underlying22 sz35 rfl rfl (by omega) (by repeat (first | exact nn_rs hr (fun _ => by rw [mcs_len]; omega) | apply Nn.left))) ?_; refine tv (o_ldPN (vs := (x).cells) a35 sz35 rfl (by repeat (first | exact hr | apply Rs.left)) (by rw [mcs_at (by omega), hx]) rfl (by decide)) ?_; refine tl_x rfl (o_buildSliceK (k := 3) (l := (x).cells) Try.underlying22 sz35 z35 rfl rfl (by decide)) ?_; rintro _ _ ⟨b41, rfl, rfl⟩; refine tl_x rfl (o_apB Try.underlying22 Try.underlying22 sz35 by35 z35 rfl (by decide) (by decide) rfl rfl rfl (by repeat (first | with_reducible exact ct_here | apply ct_left)) rfl rfl (by omega) (show _ = mcs (outM m.id (l.take i) ++ [x]) by rw [mcs_append]; rfl)) ?_; rintro _ _ ⟨a42, c42, rfl, hc42, rfl⟩; refine tla ?_; refine tl_nil ?_; refine q_block_n (q_then_n ?_); refine tc_reg ?_; refine tlm ?_; refine tv (by first | exact o_addI rfl rfl (by omega) | exact o_add rfl rfl) ?_; refine tla ?_; refine nq ?_; exact ⟨_, by omega, i + 1, _, _, _, by omega, by exact hq_, by omega, rfl, rfl, rfl, rfl, rfl, by rw [hL_]; repeat (first | with_reducible exact dr_refl | apply dr_keep | apply dr_drop)⟩
            · have hxm : x.id = m.id := by first | omega | (simp at h; omega)
              have hL_ : outM m.id (l.take (i + 1)) = outM m.id (l.take i) := by rw [htk]; unfold outM; rw [List.filter_append, List.filter_cons_of_neg (by simpa using hxm)]; simp
              have hq_ : q = (outM m.id (l.take (i + 1))).length := by rw [hL_]; exact hp1
              refine tc_skip ?_; refine q_block_n (q_then_n ?_); refine tc_reg ?_; refine tlm ?_; refine tv (by first | exact o_addI rfl rfl (by omega) | exact o_add rfl rfl) ?_; refine tla ?_; refine nq ?_; exact ⟨_, by omega, i + 1, _, _, _, by omega, by exact hq_, by omega, rfl, rfl, rfl, rfl, rfl, by rw [hL_]; repeat (first | with_reducible exact dr_refl | apply dr_keep | apply dr_drop)⟩
          · obtain rfl : i = n := by first | omega | (simp at h; omega)
            have hta : l.take i = l := List.take_of_length_le (by omega)
            rw [hta] at hp1
            refine tc_eq (show _ = A * pt b3 (cl m.cells 35) * Sl 3 (.slice a7 q c7) q (mcs (outM m.id l)) by rw [hta]) ?_; refine tc_exit ?_; refine q_then_e (q_then_e (q_block_x (q_then_n ?_))); refine tc_seq ?_; refine sr ?_; refine tlm ?_; refine tv (o_len Try.underlying22 rfl) ?_; refine tv (o_eqi rfl rfl) ?_; refine nq ?_; refine tc_cond rfl (fun h => ?_) (fun h => ?_)
            · have h3 : (outM m.id l).length = 32 := by rw [← hp1]; first | omega | (simp at h; omega)
              refine sr ?_; refine tla ?_; refine tla ?_; refine nq ?_; refine tc_ret ?_; refine q_then_r ?_
              have e0 : setS l m = ([], 191) := by unfold setS; rw [if_neg (by simpa using hne), if_neg (by rw [hok]; decide), if_pos h3]
              rw [e0]
              exact ⟨.tuple #[.slice none 0 0, .int .i64 (191)], A * Sl 3 (.slice none 0 0) 0 [], res2 rfl rfl rfl, fun _ _ h => sl_nil (Dr.sat (by repeat (first | with_reducible exact dr_refl | apply dr_keep | apply dr_drop)) _ _ h), none, 0, rfl, Nat.le_refl _, rfl⟩
            · have h3 : (outM m.id l).length ≠ 32 := by rw [← hp1]; first | omega | (simp at h; omega)
              refine tc_skip ?_; refine q_then_n ?_; refine sr ?_; refine tlm ?_; refine tv (o_loadN (vs := (m).cells) a35 sz35 rfl (by repeat (first | with_reducible exact has_here | with_reducible exact has_pt | apply has_left)) (by show 3 ≤ 3; decide) rfl) ?_; refine tl_x rfl (o_buildSliceK (k := 3) (l := (m).cells) Try.underlying22 sz35 z35 rfl rfl (by decide)) ?_; rintro _ _ ⟨b48, rfl, rfl⟩; refine tl_x rfl (o_apB Try.underlying22 Try.underlying22 sz35 by35 z35 rfl (by decide) (by decide) rfl rfl rfl (by repeat (first | with_reducible exact ct_here | apply ct_left)) rfl rfl (by omega) (show _ = mcs (outM m.id l ++ [m]) by rw [mcs_append]; rfl)) ?_; rintro _ _ ⟨a49, c49, rfl, hc49, rfl⟩; refine tl_c rfl (o_call bd38 rfl (sorted_c (l := outM m.id l ++ [m]) (pl := false) (hr := rs_sl) (hm := by rw [List.length_append, hp1]; rfl))) ?_; rintro _ _ ⟨a50, c50, rfl, hc50, rfl⟩; refine tla ?_; refine tla ?_; refine nq ?_; refine tc_ret ?_
              have e0 : setS l m = (srt (ltc cId) (outM m.id l ++ [m]), 0) := by unfold setS; rw [if_neg (by simpa using hne), if_neg (by rw [hok]; decide), if_neg h3]
              rw [e0]
              have el : (srt (ltc cId) (outM m.id l ++ [m])).length = q + 1 := by rw [srt_length cId_swo, List.length_append, hp1]; rfl
              exact ⟨.tuple #[.slice a50 (q + 1) c50, .int .i64 0], A * Sl 3 (.slice a50 (q + 1) c50) (q + 1) (mcs (srt (ltc cId) (outM m.id l ++ [m]))), res2 rfl rfl rfl, Dr.sat (by repeat (first | with_reducible exact dr_refl | apply dr_keep | apply dr_drop)), a50, c50, by rw [el], by rw [el]; exact hc50, by rw [el]⟩
set_option maxRecDepth 20000 in
set_option maxHeartbeats 2000000 in
theorem rUnset_c {A : SP} {a : Option Addr} {c n : Nat} {l : List Mk} {id : Nat} (hr : Rs A a (mcs l) := by repeat (first | assumption | with_reducible exact rs_sl | with_reducible exact rs_pt0 | exact rs_none | apply Rs.left)) (hm : l.length = n := by first | assumption | rfl) (hs : n ≤ 5864062014800 := by omega) :
    Fn Try.prog 24 #[.slice a n c, .int .u32 (id : Nat)] (A) (fun r B => ∃ a2 c2, r = .tuple #[.slice a2 (unsetS l id).1.length c2, .int .i64 (unsetS l id).2] ∧ (unsetS l id).1.length ≤ c2 ∧ B = A * Sl 3 (.slice a2 (unsetS l id).1.length c2) (unsetS l id).1.length (mcs (unsetS l id).1)) := by
  refine fn_enterW (args := [.slice a n c, .int .u32 (id : Nat)]) Try.func24 rfl Try.ntmps24 (by simp) ?_; refine sr ?_; refine tla ?_; refine tla ?_; refine nq ?_; refine sr ?_; refine tlm ?_; refine tl_c rfl (o_call bd35 rfl (rMay_c (l := l))) ?_; rintro _ _ ⟨rfl, rfl⟩; refine tla ?_; refine nq ?_; refine tc_seq ?_; refine sr ?_; refine tlm ?_; refine tv (o_nei rfl rfl) ?_; refine nq ?_; refine tc_cond rfl (fun h => ?_) (fun h => ?_)
  · have hne : mayS l ≠ 0 := by first | omega | (simp at h; omega)
    refine sr ?_; refine tlm ?_; refine tla ?_; refine tla ?_; refine nq ?_; refine tc_ret ?_; refine q_then_r ?_
    have e0 : unsetS l id = ([], mayS l) := by unfold unsetS; rw [if_pos hne]
    rw [e0]
    exact ⟨.tuple #[.slice none 0 0, .int .i64 (mayS l)], A * Sl 3 (.slice none 0 0) 0 [], res2 rfl rfl rfl, fun _ _ h => sl_nil (Dr.sat (by repeat (first | with_reducible exact dr_refl | apply dr_keep | apply dr_drop)) _ _ h), none, 0, rfl, Nat.le_refl _, rfl⟩
  · have hne : mayS l = 0 := by first | omega | (simp at h; omega)
    have h32 := (may_zero hne).1
    refine tc_skip ?_; refine q_then_n ?_; refine sr ?_; refine tla ?_; refine nq ?_; refine tc_seq ?_; refine sr ?_; refine tla ?_; refine nq ?_; refine tc_block ?_; refine tc_pre (A' := A * Sl 3 (.slice none 0 0) 0 (mcs (outM id (l.take 0)))) (fun _ _ h => sl_nil (Dr.sat (by repeat (first | with_reducible exact dr_refl | apply dr_keep | apply dr_drop)) _ _ h)) ?_; refine tc_loop (fun kk ρ BB => ∃ (i : Nat) (q : Nat) (a7 : Option Addr) (c7 : Nat), (i ≤ n) ∧ (q = (outM id (l.take i)).length) ∧ (q ≤ i) ∧ kk = n - i ∧ ρ 7 = .slice a7 q c7 ∧ ρ 8 = .int .i64 (i : Nat) ∧ ρ 0 = .slice a n c ∧ ρ 1 = .int .u32 (id : Nat) ∧ Dr BB (A * Sl 3 (.slice a7 q c7) q (mcs (outM id (l.take i))))) (m := n - (0)) ?_ ?_
    · exact ⟨0, 0, none, 0, by omega, rfl, by omega, rfl, rfl, rfl, rfl, rfl, (by repeat (first | with_reducible exact dr_refl | apply dr_keep | apply dr_drop))⟩
    · intro k ρ B hI
      obtain ⟨i, q, a7, c7, hp0, hp1, hp2, hkk1, hE7, hE8, hE0, hE1, hBA⟩ := hI
      refine tc_pre hBA.sat ?_
      clear hBA
      refine tc_env (d := 7) hE7 ?_; refine tc_env (d := 8) hE8 ?_; refine tc_env (d := 0) hE0 ?_; refine tc_env (d := 1) hE1 ?_
      clear hE7 hE8 hE0 hE1
      refine tc_seq ?_; refine sr ?_; refine tlm ?_; refine tlm ?_; refine tv (o_len Try.underlying22 rfl) ?_; refine tv (o_lss rfl rfl) ?_; refine nq ?_; refine tc_cond rfl (fun h => ?_) (fun h => ?_)
      · have hi : i < l.length := by first | omega | (simp at h; omega)
        obtain ⟨x, hx⟩ : ∃ x, l[i] = x := ⟨_, rfl⟩
        have htk : l.take (i + 1) = l.take i ++ [x] := by rw [List.take_succ_eq_append_getElem hi, hx]
        refine tc_skip ?_; refine q_then_n ?_; refine tc_seq ?_; refine tc_block ?_; refine sr ?_; refine tlm ?_; refine tlm ?_; refine tv (o_ixP Try.underlying22 sz35 rfl rfl (by omega) (by repeat (first | exact nn_rs hr (fun _ => by rw [mcs_len]; omega) | apply Nn.left))) ?_; refine tv (o_faP (m := 0) (o := 0) Try.underlying35 rfl rfl sz33 rfl (nn_rs (by repeat (first | exact hr | apply Rs.left)) (fun _ => by rw [mcs_len]; omega))) ?_; refine tv (o_ldP p33 rfl (by repeat (first | exact hr | apply Rs.left)) (by rw [mcs_f0 hi])) ?_; refine tl_env (d := 24) (v := .int .u32 (x.id : Nat)) (by rw [← hx]; rfl) ?_; refine tlm ?_; refine tv (o_nei rfl rfl) ?_; refine nq ?_; refine tc_cond rfl (fun h => ?_) (fun h => ?_)
        · have hxm : x.id ≠ id := by first | omega | (simp at h; omega)
          have hL_ : outM id (l.take (i + 1)) = outM id (l.take i) ++ [x] := by rw [htk]; unfold outM; rw [List.filter_append, List.filter_cons_of_pos (by simpa using hxm)]; rfl
          have hq_ : q + 1 = (outM id (l.take (i + 1))).length := by rw [hL_, List.length_append, ← hp1]; rfl
          refine tc_reg ?_; refine tlm ?_; refine tlm ?_; refine tlm ?_; refine tv (o_ixP Try.underlying22 sz35 rfl rfl (by omega) (by repeat (first | exact nn_rs hr (fun _ => by rw [mcs_len]; omega) | apply Nn.left))) ?_; refine tv (o_ldPN (vs := (x).cells) a35 sz35 rfl (by repeat (first | exact hr | apply Rs.left)) (by rw [mcs_at (by omega), hx]) rfl (by decide)) ?_; refine tl_x rfl (o_buildSliceK (k := 3) (l := (x).cells) Try.underlying22 sz35 z35 rfl rfl (by decide)) ?_; rintro _ _ ⟨b32, rfl, rfl⟩; refine tl_x rfl (o_apB Try.underlying22 Try.underlying22 sz35 by35 z35 rfl (by decide) (by decide) rfl rfl rfl (by repeat (first | with_reducible exact ct_here | apply ct_left)) rfl rfl (by omega) (show _ = mcs (outM id (l.take i) ++ [x]) by rw [mcs_append]; rfl)) ?_; rintro _ _ ⟨a33, c33, rfl, hc33, rfl⟩; refine tla ?_; refine tl_nil ?_; refine q_block_n (q_then_n ?_); refine tc_reg ?_; refine tlm ?_; refine tv (by first | exact o_addI rfl rfl (by omega) | exact o_add rfl rfl) ?_; refine tla ?_; refine nq ?_; exact ⟨_, by omega, i + 1, _, _, _, by omega, by exact hq_, by omega, rfl, rfl, rfl, rfl, rfl, by rw [hL_]; repeat (first | with_reducible exact dr_refl | apply dr_keep | apply dr_drop)⟩
        · have hxm : x.id = id := by first | omega | (simp at h; omega)
          have hL_ : outM id (l.take (i + 1)) = outM id (l.take i) := by rw [htk]; unfold outM; rw [List.filter_append, List.filter_cons_of_neg (by simpa using hxm)]; simp
          have hq_ : q = (outM id (l.take (i + 1))).length := by rw [hL_]; exact hp1
          refine tc_skip ?_; refine q_block_n (q_then_n ?_); refine tc_reg ?_; refine tlm ?_; refine tv (by first | exact o_addI rfl rfl (by omega) | exact o_add rfl rfl) ?_; refine tla ?_; refine nq ?_; exact ⟨_, by omega, i + 1, _, _, _, by omega, by exact hq_, by omega, rfl, rfl, rfl, rfl, rfl, by rw [hL_]; repeat (first | with_reducible exact dr_refl | apply dr_keep | apply dr_drop)⟩
      · obtain rfl : i = n := by first | omega | (simp at h; omega)
        have hta : l.take i = l := List.take_of_length_le (by omega)
        rw [hta] at hp1
        refine tc_eq (show _ = A * Sl 3 (.slice a7 q c7) q (mcs (outM id l)) by rw [hta]) ?_; refine tc_exit ?_; refine q_then_e (q_then_e (q_block_x (q_then_n ?_))); refine tc_seq ?_; refine sr ?_; refine tlm ?_; refine tv (o_len Try.underlying22 rfl) ?_; refine tlm ?_; refine tv (o_len Try.underlying22 rfl) ?_; refine tv (o_eqi rfl rfl) ?_; refine nq ?_; refine tc_cond rfl (fun h => ?_) (fun h => ?_)
        · have h3 : (outM id l).length = l.length := by rw [← hp1]; first | omega | (simp at h; omega)
          refine sr ?_; refine tla ?_; refine tla ?_; refine nq ?_; refine tc_ret ?_; refine q_then_r ?_
          have e0 : unsetS l id = ([], 190) := by unfold unsetS; rw [if_neg (by simpa using hne), if_pos h3]
          rw [e0]
          exact ⟨.tuple #[.slice none 0 0, .int .i64 (190)], A * Sl 3 (.slice none 0 0) 0 [], res2 rfl rfl rfl, fun _ _ h => sl_nil (Dr.sat (by repeat (first | with_reducible exact dr_refl | apply dr_keep | apply dr_drop)) _ _ h), none, 0, rfl, Nat.le_refl _, rfl⟩
        · have h3 : (outM id l).length ≠ l.length := by rw [← hp1]; first | omega | (simp at h; omega)
          refine tc_skip ?_; refine q_then_n ?_; refine sr ?_; refine tlm ?_; refine tl_c rfl (o_call bd38 rfl (sorted_c (l := outM id l) (pl := false) (hr := rs_sl) (hm := hp1.symm))) ?_; rintro _ _ ⟨a40, c40, rfl, hc40, rfl⟩; refine tla ?_; refine tla ?_; refine nq ?_; refine tc_ret ?_
          have e0 : unsetS l id = (srt (ltc cId) (outM id l), 0) := by unfold unsetS; rw [if_neg (by simpa using hne), if_neg h3]
          rw [e0]
          have el : (srt (ltc cId) (outM id l)).length = q := by rw [srt_length cId_swo, hp1]
          exact ⟨.tuple #[.slice a40 q c40, .int .i64 0], A * Sl 3 (.slice a40 q c40) q (mcs (srt (ltc cId) (outM id l))), res2 rfl rfl rfl, Dr.sat (by repeat (first | with_reducible exact dr_refl | apply dr_keep | apply dr_drop)), a40, c40, by rw [el], by rw [el]; exact hc40, by rw [el]⟩
set_option maxRecDepth 20000 in
set_option maxHeartbeats 2000000 in
theorem EditMay_c {A : SP} {e : Ed} (hE : EdW e := by assumption) :
    Fn Try.prog 36 #[.agg e.cells.toArray] (A) (fun r B => r = .bool (edMay e) ∧ A = B) := by
  refine fn_enterW (args := [.agg e.cells.toArray]) Try.func36 rfl Try.ntmps36 (by simp) ?_
  have hEa := hE.a
  have hEo := hE.o
  have hEi := hE.i
  refine sr ?_; refine tl_x rfl (o_box rfl rfl) ?_; rintro _ _ ⟨b1, rfl, rfl⟩; refine tla ?_; refine nq ?_; refine sr ?_; refine tv (o_fieldAddr (o := 0) Try.underlying24 rfl rfl sz3 rfl) ?_; refine tv (by first | exact o_load p3 rfl (by repeat (first | with_reducible exact has_here | with_reducible exact has_pt | apply has_left)) rfl | exact o_loadC p3 rfl (by assumption)) ?_; refine tv (o_geq rfl rfl) ?_; refine tlm ?_; refine tl_bool (d := 6) rfl (fun h => ?_) (fun h => ?_)
  · have g6 : (e.at_ ≥ 0) := by first | exact of_decide_eq_true h | simpa using h
    refine tv (o_fieldAddr (o := 1) Try.underlying24 rfl rfl sz3 rfl) ?_; refine tv (by first | exact o_load p3 rfl (by repeat (first | with_reducible exact has_here | with_reducible exact has_pt | apply has_left)) rfl | exact o_loadC p3 rfl (by assumption)) ?_; refine tv (o_geq rfl rfl) ?_; refine tv (o_pick_t rfl (by conv => lhs; whnf)) ?_; refine tlm ?_; refine tl_bool (d := 11) rfl (fun h => ?_) (fun h => ?_)
    · have g11 : (e.out ≥ 0) := by first | exact of_decide_eq_true h | simpa using h
      refine tv (o_fieldAddr (o := 2) Try.underlying24 rfl rfl sz3 rfl) ?_; refine tv (by first | exact o_load p3 rfl (by repeat (first | with_reducible exact has_here | with_reducible exact has_pt | apply has_left)) rfl | exact o_loadC p3 rfl (by assumption)) ?_; refine tv (o_geq rfl rfl) ?_; refine tv (o_pick_t rfl (by conv => lhs; whnf)) ?_; refine tlm ?_; refine tl_bool (d := 16) rfl (fun h => ?_) (fun h => ?_)
      · have g16 : (e.inn ≥ 0) := by first | exact of_decide_eq_true h | simpa using h
        refine tv (o_fieldAddr (o := 1) Try.underlying24 rfl rfl sz3 rfl) ?_; refine tv (by first | exact o_load p3 rfl (by repeat (first | with_reducible exact has_here | with_reducible exact has_pt | apply has_left)) rfl | exact o_loadC p3 rfl (by assumption)) ?_; refine tv (o_fieldAddr (o := 0) Try.underlying24 rfl rfl sz3 rfl) ?_; refine tv (by first | exact o_load p3 rfl (by repeat (first | with_reducible exact has_here | with_reducible exact has_pt | apply has_left)) rfl | exact o_loadC p3 rfl (by assumption)) ?_; refine tv (o_subI rfl rfl (by omega)) ?_; refine tv (o_leq rfl rfl) ?_; refine tv (o_pick_t rfl (by conv => lhs; whnf)) ?_; refine tlm ?_; refine tl_bool (d := 24) rfl (fun h => ?_) (fun h => ?_)
        · have g24 : (e.out ≤ 9223372036854775807 - e.at_) := by first | exact of_decide_eq_true h | simpa using h
          refine tv (o_fieldAddr (o := 2) Try.underlying24 rfl rfl sz3 rfl) ?_; refine tv (by first | exact o_load p3 rfl (by repeat (first | with_reducible exact has_here | with_reducible exact has_pt | apply has_left)) rfl | exact o_loadC p3 rfl (by assumption)) ?_; refine tv (o_fieldAddr (o := 0) Try.underlying24 rfl rfl sz3 rfl) ?_; refine tv (by first | exact o_load p3 rfl (by repeat (first | with_reducible exact has_here | with_reducible exact has_pt | apply has_left)) rfl | exact o_loadC p3 rfl (by assumption)) ?_; refine tv (o_subI rfl rfl (by omega)) ?_; refine tv (o_leq rfl rfl) ?_; refine tv (o_pick_t rfl (by conv => lhs; whnf)) ?_; refine tla ?_; refine nq ?_; refine tc_ret ?_; exact ⟨.bool (decide (e.inn ≤ 9223372036854775807 - e.at_)), A, res1 rfl rfl, Dr.sat (by repeat (first | with_reducible exact dr_refl | apply dr_keep | apply dr_drop)), by unfold edMay; congr 1; rw [decide_eq_decide]; omega, rfl⟩
        · have g24 : ¬ (e.out ≤ 9223372036854775807 - e.at_) := by first | exact of_decide_eq_false h | simpa using h
          refine tk ?_; refine tk ?_; refine tk ?_; refine tk ?_; refine tk ?_; refine tk ?_; refine tv (o_pick_f rfl (by conv => lhs; whnf)) ?_; refine tla ?_; refine nq ?_; refine tc_ret ?_; refine ⟨.bool false, _, res1 rfl rfl, ?_, (by rw [edMay_f (by omega)]), rfl⟩; exact Dr.sat (by repeat (first | with_reducible exact dr_refl | apply dr_keep | apply dr_drop))
      · have g16 : ¬ (e.inn ≥ 0) := by first | exact of_decide_eq_false h | simpa using h
        refine tk ?_; refine tk ?_; refine tk ?_; refine tk ?_; refine tk ?_; refine tk ?_; refine tv (o_pick_f rfl (by conv => lhs; whnf)) ?_; refine tlm ?_; refine tk ?_; refine tk ?_; refine tk ?_; refine tk ?_; refine tk ?_; refine tk ?_; refine tv (o_pick_f rfl (by conv => lhs; whnf)) ?_; refine tla ?_; refine nq ?_; refine tc_ret ?_; refine ⟨.bool false, _, res1 rfl rfl, ?_, (by rw [edMay_f (by omega)]), rfl⟩; exact Dr.sat (by repeat (first | with_reducible exact dr_refl | apply dr_keep | apply dr_drop))
    · have g11 : ¬ (e.out ≥ 0) := by first | exact of_decide_eq_false h | simpa using h
      refine tk ?_; refine tk ?_; refine tk ?_; refine tv (o_pick_f rfl (by conv => lhs; whnf)) ?_; refine tlm ?_; refine tk ?_; refine tk ?_; refine tk ?_; refine tk ?_; refine tk ?_; refine tk ?_; refine tv (o_pick_f rfl (by conv => lhs; whnf)) ?_; refine tlm ?_; refine tk ?_; refine tk ?_; refine tk ?_; refine tk ?_; refine tk ?_; refine tk ?_; refine tv (o_pick_f rfl (by conv => lhs; whnf)) ?_; refine tla ?_; refine nq ?_; refine tc_ret ?_; refine ⟨.bool false, _, res1 rfl rfl, ?_, (by rw [edMay_f (by omega)]), rfl⟩; exact Dr.sat (by repeat (first | with_reducible exact dr_refl | apply dr_keep | apply dr_drop))
  · have g6 : ¬ (e.at_ ≥ 0) := by first | exact of_decide_eq_false h | simpa using h
    refine tk ?_; refine tk ?_; refine tk ?_; refine tv (o_pick_f rfl (by conv => lhs; whnf)) ?_; refine tlm ?_; refine tk ?_; refine tk ?_; refine tk ?_; refine tv (o_pick_f rfl (by conv => lhs; whnf)) ?_; refine tlm ?_; refine tk ?_; refine tk ?_; refine tk ?_; refine tk ?_; refine tk ?_; refine tk ?_; refine tv (o_pick_f rfl (by conv => lhs; whnf)) ?_; refine tlm ?_; refine tk ?_; refine tk ?_; refine tk ?_; refine tk ?_; refine tk ?_; refine tk ?_; refine tv (o_pick_f rfl (by conv => lhs; whnf)) ?_; refine tla ?_; refine nq ?_; refine tc_ret ?_; refine ⟨.bool false, _, res1 rfl rfl, ?_, (by rw [edMay_f (by omega)]), rfl⟩; exact Dr.sat (by repeat (first | with_reducible exact dr_refl | apply dr_keep | apply dr_drop))
set_option maxRecDepth 20000 in
set_option maxHeartbeats 2000000 in
theorem Gone_c {A : SP} {e : Ed} {p : Int} {gs : Bool} (hem : edMay e = true := by assumption) (hE : EdW e := by assumption) (hp : -9223372036854775808 ≤ p ∧ p ≤ 9223372036854775807 := by first | assumption | omega) :
    Fn Try.prog 37 #[.int .i64 p, .bool gs, .agg e.cells.toArray] (A) (fun r B => r = .tuple #[.int .i64 ((goneS e p gs).getD 0), .bool (goneS e p gs).isSome] ∧ A = B) := by
  refine fn_enterW (args := [.int .i64 p, .bool gs, .agg e.cells.toArray]) Try.func37 rfl Try.ntmps37 (by simp) ?_
  have hEa := hE.a
  have hEo := hE.o
  have hEi := hE.i
  have hem2 := of_decide_eq_true hem
  refine sr ?_; refine tl_x rfl (o_box rfl rfl) ?_; rintro _ _ ⟨b5, rfl, rfl⟩; refine tla ?_; refine tla ?_; refine nq ?_; refine tc_seq ?_; refine sr ?_; refine tlm ?_; refine tv (o_fieldAddr (o := 0) Try.underlying24 rfl rfl sz3 rfl) ?_; refine tv (by first | exact o_load p3 rfl (by repeat (first | with_reducible exact has_here | with_reducible exact has_pt | apply has_left)) rfl | exact o_loadC p3 rfl (by assumption)) ?_; refine tv (o_lss rfl rfl) ?_; refine nq ?_; refine tc_cond rfl (fun h => ?_) (fun h => ?_)
  · have c12 : (p < e.at_) := by first | exact of_decide_eq_true h | simpa using h
    refine sr ?_; refine tlm ?_; refine tla ?_; refine tla ?_; refine nq ?_; refine tc_ret ?_; refine q_then_r ?_; exact ⟨.tuple #[.int .i64 (p), .bool true], A, res2 rfl rfl rfl, Dr.sat (by repeat (first | with_reducible exact dr_refl | apply dr_keep | apply dr_drop)), by unfold goneS; rw [if_pos c12]; rfl, rfl⟩
  · have c12 : ¬ (p < e.at_) := by first | exact of_decide_eq_false h | simpa using h
    refine tc_skip ?_; refine q_then_n ?_; refine tc_seq ?_; refine sr ?_; refine tlm ?_; refine tv (o_fieldAddr (o := 0) Try.underlying24 rfl rfl sz3 rfl) ?_; refine tv (by first | exact o_load p3 rfl (by repeat (first | with_reducible exact has_here | with_reducible exact has_pt | apply has_left)) rfl | exact o_loadC p3 rfl (by assumption)) ?_; refine tv (o_fieldAddr (o := 1) Try.underlying24 rfl rfl sz3 rfl) ?_; refine tv (by first | exact o_load p3 rfl (by repeat (first | with_reducible exact has_here | with_reducible exact has_pt | apply has_left)) rfl | exact o_loadC p3 rfl (by assumption)) ?_; refine tv (by first | exact o_addI rfl rfl (by omega) | exact o_add rfl rfl) ?_; refine tv (o_gtr rfl rfl) ?_; refine nq ?_; refine tc_cond rfl (fun h => ?_) (fun h => ?_)
    · have c20 : (e.at_ + e.out < p) := by first | exact of_decide_eq_true h | simpa using h
      refine sr ?_; refine tlm ?_; refine tv (o_fieldAddr (o := 1) Try.underlying24 rfl rfl sz3 rfl) ?_; refine tv (by first | exact o_load p3 rfl (by repeat (first | with_reducible exact has_here | with_reducible exact has_pt | apply has_left)) rfl | exact o_loadC p3 rfl (by assumption)) ?_; refine tv (o_subI rfl rfl (by omega)) ?_; refine tla ?_; refine nq ?_; refine tc_seq ?_; refine sr ?_; refine tlm ?_; refine tv (o_fieldAddr (o := 2) Try.underlying24 rfl rfl sz3 rfl) ?_; refine tv (by first | exact o_load p3 rfl (by repeat (first | with_reducible exact has_here | with_reducible exact has_pt | apply has_left)) rfl | exact o_loadC p3 rfl (by assumption)) ?_; refine tv (o_subI rfl rfl (by omega)) ?_; refine tv (o_gtr rfl rfl) ?_; refine nq ?_; refine tc_cond rfl (fun h => ?_) (fun h => ?_)
      · have c29 : (9223372036854775807 - e.inn < p - e.out) := by first | exact of_decide_eq_true h | simpa using h
        refine sr ?_; refine tla ?_; refine tla ?_; refine nq ?_; refine tc_ret ?_; refine q_then_r (q_then_r ?_); exact ⟨.tuple #[.int .i64 (0), .bool false], A, res2 rfl rfl rfl, Dr.sat (by repeat (first | with_reducible exact dr_refl | apply dr_keep | apply dr_drop)), by unfold goneS; rw [if_neg c12, if_pos c20, if_pos c29]; rfl, rfl⟩
      · have c29 : ¬ (9223372036854775807 - e.inn < p - e.out) := by first | exact of_decide_eq_false h | simpa using h
        refine tc_skip ?_; refine q_then_n ?_; refine sr ?_; refine tlm ?_; refine tv (o_fieldAddr (o := 2) Try.underlying24 rfl rfl sz3 rfl) ?_; refine tv (by first | exact o_load p3 rfl (by repeat (first | with_reducible exact has_here | with_reducible exact has_pt | apply has_left)) rfl | exact o_loadC p3 rfl (by assumption)) ?_; refine tv (by first | exact o_addI rfl rfl (by omega) | exact o_add rfl rfl) ?_; refine tla ?_; refine tla ?_; refine nq ?_; refine tc_ret ?_; refine q_then_r ?_; exact ⟨.tuple #[.int .i64 (p - e.out + e.inn), .bool true], A, res2 rfl rfl rfl, Dr.sat (by repeat (first | with_reducible exact dr_refl | apply dr_keep | apply dr_drop)), by unfold goneS; rw [if_neg c12, if_pos c20, if_neg c29]; rfl, rfl⟩
    · have c20 : ¬ (e.at_ + e.out < p) := by first | exact of_decide_eq_false h | simpa using h
      refine tc_skip ?_; refine q_then_n ?_; refine tc_seq ?_; refine sr ?_; refine tlm ?_; refine nq ?_; refine tc_cond rfl (fun h => ?_) (fun h => ?_)
      · have c34 : (gs = true) := by first | exact of_decide_eq_true h | simpa using h
        refine sr ?_; refine tv (o_fieldAddr (o := 0) Try.underlying24 rfl rfl sz3 rfl) ?_; refine tv (by first | exact o_load p3 rfl (by repeat (first | with_reducible exact has_here | with_reducible exact has_pt | apply has_left)) rfl | exact o_loadC p3 rfl (by assumption)) ?_; refine tv (o_fieldAddr (o := 2) Try.underlying24 rfl rfl sz3 rfl) ?_; refine tv (by first | exact o_load p3 rfl (by repeat (first | with_reducible exact has_here | with_reducible exact has_pt | apply has_left)) rfl | exact o_loadC p3 rfl (by assumption)) ?_; refine tv (by first | exact o_addI rfl rfl (by omega) | exact o_add rfl rfl) ?_; refine tla ?_; refine tla ?_; refine nq ?_; refine tc_ret ?_; refine q_then_r ?_; exact ⟨.tuple #[.int .i64 (e.at_ + e.inn), .bool true], A, res2 rfl rfl rfl, Dr.sat (by repeat (first | with_reducible exact dr_refl | apply dr_keep | apply dr_drop)), by unfold goneS; rw [if_neg c12, if_neg c20, if_pos c34]; rfl, rfl⟩
      · have c34 : ¬ (gs = true) := by first | exact of_decide_eq_false h | simpa using h
        refine tc_skip ?_; refine q_then_n ?_; refine sr ?_; refine tv (o_fieldAddr (o := 0) Try.underlying24 rfl rfl sz3 rfl) ?_; refine tv (by first | exact o_load p3 rfl (by repeat (first | with_reducible exact has_here | with_reducible exact has_pt | apply has_left)) rfl | exact o_loadC p3 rfl (by assumption)) ?_; refine tla ?_; refine tla ?_; refine nq ?_; refine tc_ret ?_; exact ⟨.tuple #[.int .i64 (e.at_), .bool true], A, res2 rfl rfl rfl, Dr.sat (by repeat (first | with_reducible exact dr_refl | apply dr_keep | apply dr_drop)), by unfold goneS; rw [if_neg c12, if_neg c20, if_neg c34]; rfl, rfl⟩
theorem rOrder_c {A : SP} {a : Option Addr} {c n : Nat} {l : List Mk} (hr : Rs A a (mcs l) := by repeat (first | assumption | with_reducible exact rs_sl | with_reducible exact rs_pt0 | exact rs_none | apply Rs.left)) (hm : l.length = n := by first | assumption | rfl) (hs : n ≤ 5864062014800 := by omega) :
    Fn Try.prog 26 #[.slice a n c] (A) (fun r B => ∃ a2 c2, r = .slice a2 n c2 ∧ n ≤ c2 ∧ B = A * Sl 3 (.slice a2 n c2) n (mcs (srt (ltc cPl) l))) := by
  refine fn_enterW (args := [.slice a n c]) Try.func26 rfl Try.ntmps26 (by simp) ?_; refine sr ?_; refine tla ?_; refine nq ?_; refine sr ?_; refine tlm ?_; refine tl_c rfl (o_call bd38 rfl (sorted_c (l := l) (pl := true))) ?_; rintro _ _ ⟨a4, c4, rfl, hc4, rfl⟩; refine tla ?_; refine nq ?_; refine tc_ret ?_; exact ⟨.slice a4 n c4, _, res1 rfl rfl, fun _ _ h => h, a4, c4, rfl, hc4, rfl⟩
set_option maxRecDepth 20000 in
set_option maxHeartbeats 2000000 in
theorem rSame_c {A : SP} {a b : Option Addr} {c n d m : Nat} {l r2 : List Mk} (hr : Rs A a (mcs l) := by repeat (first | assumption | with_reducible exact rs_sl | with_reducible exact rs_pt0 | exact rs_none | apply Rs.left)) (hr2 : Rs A b (mcs r2) := by repeat (first | assumption | with_reducible exact rs_sl | with_reducible exact rs_pt0 | exact rs_none | apply Rs.left)) (hm : l.length = n := by first | assumption | rfl) (hm2 : r2.length = m := by first | assumption | rfl) (hs : n ≤ 1125899906842624 := by omega) (hs2 : m ≤ 1125899906842624 := by omega) :
    Fn Try.prog 39 #[.slice a n c, .slice b m d] (A) (fun r B => r = .bool (decide (l = r2)) ∧ A = B) := by
  refine fn_enterW (args := [.slice a n c, .slice b m d]) Try.func39 rfl Try.ntmps39 (by simp) ?_; refine sr ?_; refine tla ?_; refine nq ?_; refine tc_seq ?_; refine sr ?_; refine tlm ?_; refine tv (o_len Try.underlying22 rfl) ?_; refine tlm ?_; refine tv (o_len Try.underlying22 rfl) ?_; refine tv (o_nei rfl rfl) ?_; refine nq ?_; refine tc_cond rfl (fun h => ?_) (fun h => ?_)
  · have hne : l.length ≠ r2.length := by first | omega | (simp at h; omega)
    refine sr ?_; refine tla ?_; refine nq ?_; refine tc_ret ?_; refine q_then_r ?_; refine ⟨.bool false, _, res1 rfl rfl, ?_, (by rw [decide_eq_false (fun e => hne (by rw [e]))]), rfl⟩; exact Dr.sat (by repeat (first | with_reducible exact dr_refl | apply dr_keep | apply dr_drop))
  · have hle : l.length = r2.length := by first | omega | (simp at h; omega)
    refine tc_skip ?_; refine q_then_n ?_; refine tc_seq ?_; refine sr ?_; refine tla ?_; refine nq ?_; refine tc_block ?_; refine tc_loop (fun kk ρ BB => ∃ (i : Nat), (i ≤ n) ∧ (l.take i = r2.take i) ∧ kk = n - i ∧ ρ 5 = .int .i64 (i : Nat) ∧ ρ 0 = .slice a n c ∧ ρ 1 = .slice b m d ∧ BB = A) (m := n - (0)) ?_ ?_
    · exact ⟨0, by omega, rfl, rfl, rfl, rfl, rfl, rfl⟩
    · intro k ρ B hI
      obtain ⟨i, hp0, hp1, hkk1, hE5, hE0, hE1, hBA⟩ := hI
      obtain rfl := hBA.symm
      refine tc_env (d := 5) hE5 ?_; refine tc_env (d := 0) hE0 ?_; refine tc_env (d := 1) hE1 ?_
      clear hE5 hE0 hE1
      refine tc_seq ?_; refine sr ?_; refine tlm ?_; refine tlm ?_; refine tv (o_len Try.underlying22 rfl) ?_; refine tv (o_lss rfl rfl) ?_; refine nq ?_; refine tc_cond rfl (fun h => ?_) (fun h => ?_)
      · have hi : i < l.length := by first | omega | (simp at h; omega)
        refine tc_skip ?_; refine q_then_n ?_; refine tc_seq ?_; refine tc_block ?_; refine tc_seq ?_; refine tc_regq mo (by kernel_rfl) ?_; refine ql_v rfl (o_move (by conv => lhs; whnf)) ?_; refine ql_v rfl (o_move (by conv => lhs; whnf)) ?_; refine ql_v rfl (o_ixP Try.underlying22 sz35 rfl rfl (by omega) (by repeat (first | exact nn_rs hr (fun _ => by rw [mcs_len]; omega) | apply Nn.left))) ?_; refine ql_v rfl (o_ldPN (vs := (l[i]).cells) a35 sz35 rfl (by repeat (first | exact hr | apply Rs.left)) (mcs_at (by omega)) rfl (by decide)) ?_; refine ql_v rfl (o_move (by conv => lhs; whnf)) ?_; refine ql_v rfl (o_move (by conv => lhs; whnf)) ?_; refine ql_v rfl (o_ixP Try.underlying22 sz35 rfl rfl (by omega) (by repeat (first | exact nn_rs hr2 (fun _ => by rw [mcs_len]; omega) | apply Nn.left))) ?_; refine ql_v rfl (o_ldPN (vs := (r2[i]'(by omega)).cells) a35 sz35 rfl (by repeat (first | exact hr2 | apply Rs.left)) (mcs_at (by omega)) rfl (by decide)) ?_; refine ql_v rfl (o_neMk rfl rfl) ?_; refine ql_nil ?_; refine q_then_n ?_; refine tc_cond rfl (fun h => ?_) (fun h => ?_)
        · have hne : l[i] ≠ r2[i]'(by omega) := by first | exact of_decide_eq_true h | exact h | simpa using h
          refine sr ?_; refine tla ?_; refine nq ?_; refine tc_ret ?_; refine q_block_r (q_then_r (q_then_r (q_block_r (q_then_r ?_)))); refine ⟨.bool false, _, res1 rfl rfl, ?_, (by rw [decide_eq_false (fun e => hne (by subst e; rfl))]), rfl⟩; exact Dr.sat (by repeat (first | with_reducible exact dr_refl | apply dr_keep | apply dr_drop))
        · have heq : l[i] = r2[i]'(by omega) := by simpa using h
          refine tc_skip ?_; refine q_block_n (q_then_n ?_); refine tc_reg ?_; refine tlm ?_; refine tv (by first | exact o_addI rfl rfl (by omega) | exact o_add rfl rfl) ?_; refine tla ?_; refine nq ?_; exact ⟨_, by omega, i + 1, by omega, by rw [List.take_succ_eq_append_getElem hi, List.take_succ_eq_append_getElem (show i < r2.length by omega), hp1, heq], rfl, rfl, rfl, rfl, rfl⟩
      · have hi : n ≤ i := by first | omega | (simp at h; omega)
        rw [List.take_of_length_le (by omega), List.take_of_length_le (by omega)] at hp1
        refine tc_exit ?_; refine q_then_e (q_then_e (q_block_x (q_then_n ?_))); refine sr ?_; refine tla ?_; refine nq ?_; refine tc_ret ?_; refine ⟨.bool true, _, res1 rfl rfl, ?_, (by rw [decide_eq_true hp1]), rfl⟩; exact Dr.sat (by repeat (first | with_reducible exact dr_refl | apply dr_keep | apply dr_drop))
theorem mg_map {α : Type} {lt : α → α → Bool} {f : α → α} (hf : ∀ x y, lt (f x) (f y) = lt x y) : ∀ (n : Nat) (X Y : List α), X.length + Y.length ≤ n → (mg lt X Y).map f = mg lt (X.map f) (Y.map f)
  | _, [], Y, _ => by rw [mg_nil_l, List.map_nil, mg_nil_l]
  | _, x :: X, [], _ => by rw [mg_nil_r, List.map_nil, mg_nil_r]
  | 0, x :: X, y :: Y, h => by simp at h
  | n + 1, x :: X, y :: Y, h => by
    simp only [List.length_cons] at h
    rw [mg_cons, List.map_cons, List.map_cons, mg_cons, hf]
    split
    · rw [List.map_cons, mg_map hf n (x :: X) Y (by simp only [List.length_cons]; omega), List.map_cons]
    · rw [List.map_cons, mg_map hf n X (y :: Y) (by simp only [List.length_cons]; omega), List.map_cons]
theorem srt_map {α : Type} {lt : α → α → Bool} {f : α → α} (hf : ∀ x y, lt (f x) (f y) = lt x y) (l : List α) : srt lt (l.map f) = (srt lt l).map f := by
  have key : ∀ (m acc : List α), (m.map f).foldl (fun acc x => mg lt acc [x]) (acc.map f) = (m.foldl (fun acc x => mg lt acc [x]) acc).map f := by
    intro m
    induction m with
    | nil => intro acc; rfl
    | cons x m ih =>
      intro acc
      rw [List.map_cons, List.foldl_cons, List.foldl_cons, ← ih, mg_map hf _ _ _ (Nat.le_refl _)]; rfl
  exact key l []
theorem mv_id (e : Ed) (x y : Mk) : ltc cId (mvM e x) (mvM e y) = ltc cId x y := rfl
set_option maxRecDepth 20000 in
set_option maxHeartbeats 2000000 in
theorem rShift_c {A : SP} {a : Option Addr} {c n : Nat} {l : List Mk} {e : Ed} (hr : Rs A a (mcs l) := by repeat (first | assumption | with_reducible exact rs_sl | with_reducible exact rs_pt0 | exact rs_none | apply Rs.left)) (hm : l.length = n := by first | assumption | rfl) (hW : ∀ x ∈ l, MkW x := by assumption) (hE : EdW e := by assumption) (hs : n ≤ 5864062014800 := by omega) :
    Fn Try.prog 13 #[.slice a n c, .agg e.cells.toArray] (A) (fun r B => ∃ a2 c2, r = .tuple #[.slice a2 (shiftS l e).1.length c2, .int .i64 (shiftS l e).2] ∧ (shiftS l e).1.length ≤ c2 ∧ B = A * Sl 3 (.slice a2 (shiftS l e).1.length c2) (shiftS l e).1.length (mcs (shiftS l e).1)) := by
  refine fn_enterW (args := [.slice a n c, .agg e.cells.toArray]) Try.func13 rfl Try.ntmps13 (by simp) ?_; refine sr ?_; refine tl_x rfl (o_box rfl rfl) ?_; rintro _ _ ⟨b3, rfl, rfl⟩; refine tla ?_; refine tla ?_; refine nq ?_; refine sr ?_; refine tlm ?_; refine tl_c rfl (o_call bd35 rfl (rMay_c (l := l))) ?_; rintro _ _ ⟨rfl, rfl⟩; refine tla ?_; refine nq ?_; refine tc_seq ?_; refine sr ?_; refine tlm ?_; refine tv (o_nei rfl rfl) ?_; refine nq ?_; refine tc_cond rfl (fun h => ?_) (fun h => ?_)
  · have hne : mayS l ≠ 0 := by first | omega | (simp at h; omega)
    refine sr ?_; refine tlm ?_; refine tla ?_; refine tla ?_; refine nq ?_; refine tc_ret ?_; refine q_then_r ?_
    have e0 : shiftS l e = ([], mayS l) := by unfold shiftS; rw [if_pos hne]
    rw [e0]
    exact ⟨.tuple #[.slice none 0 0, .int .i64 (mayS l)], A * Sl 3 (.slice none 0 0) 0 [], res2 rfl rfl rfl, fun _ _ h => sl_nil (Dr.sat (by repeat (first | with_reducible exact dr_refl | apply dr_keep | apply dr_drop)) _ _ h), none, 0, rfl, Nat.le_refl _, rfl⟩
  · have hne : mayS l = 0 := by first | omega | (simp at h; omega)
    have h32 := (may_zero hne).1
    refine tc_skip ?_; refine q_then_n ?_; refine tc_seq ?_; refine sr ?_; refine tv (o_loadN (vs := (e).cells) a24 sz24 rfl (by repeat (first | with_reducible exact has_here | with_reducible exact has_pt | apply has_left)) (by show 3 ≤ 3; decide) rfl) ?_; refine tl_c rfl (o_call bd36 rfl (EditMay_c (e := e))) ?_; rintro _ _ ⟨rfl, rfl⟩; refine tv (o_not rfl) ?_; refine nq ?_; refine tc_cond rfl (fun h => ?_) (fun h => ?_)
    · have hem : edMay e = false := by simpa using h
      refine sr ?_; refine tla ?_; refine tla ?_; refine nq ?_; refine tc_ret ?_; refine q_then_r ?_
      have e0 : shiftS l e = ([], 2) := by unfold shiftS; rw [if_neg (by simpa using hne), if_pos hem]
      rw [e0]
      exact ⟨.tuple #[.slice none 0 0, .int .i64 (2)], A * Sl 3 (.slice none 0 0) 0 [], res2 rfl rfl rfl, fun _ _ h => sl_nil (Dr.sat (by repeat (first | with_reducible exact dr_refl | apply dr_keep | apply dr_drop)) _ _ h), none, 0, rfl, Nat.le_refl _, rfl⟩
    · have hem : edMay e = true := by simpa using h
      refine tc_skip ?_; refine q_then_n ?_; refine sr ?_; refine tla ?_; refine nq ?_; refine tc_seq ?_; refine sr ?_; refine tla ?_; refine nq ?_; refine tc_block ?_; refine tc_pre (A' := A * pt b3 (cl e.cells 24) * Sl 3 (.slice none 0 0) 0 (mcs ((l.take 0).map (mvM e)))) (fun _ _ h => sl_nil (Dr.sat (by repeat (first | with_reducible exact dr_refl | apply dr_keep | apply dr_drop)) _ _ h)) ?_; refine tc_loop (fun kk ρ BB => ∃ (i : Nat) (a7 : Option Addr) (c7 : Nat), (i ≤ n) ∧ (∀ x ∈ l.take i, (gnM e x).isSome = true) ∧ kk = n - i ∧ ρ 7 = .slice a7 i c7 ∧ ρ 8 = .int .i64 (i : Nat) ∧ ρ 0 = .slice a n c ∧ ρ 3 = .pointer (some ⟨b3, 0, none⟩) ∧ Dr BB (A * pt b3 (cl e.cells 24) * Sl 3 (.slice a7 i c7) i (mcs ((l.take i).map (mvM e))))) (m := n - (0)) ?_ ?_
      · exact ⟨0, none, 0, by omega, by simp, rfl, rfl, rfl, rfl, rfl, (by repeat (first | with_reducible exact dr_refl | apply dr_keep | apply dr_drop))⟩
      · intro k ρ B hI
        obtain ⟨i, a7, c7, hp0, hp1, hkk1, hE7, hE8, hE0, hE3, hBA⟩ := hI
        refine tc_pre hBA.sat ?_
        clear hBA
        refine tc_env (d := 7) hE7 ?_; refine tc_env (d := 8) hE8 ?_; refine tc_env (d := 0) hE0 ?_; refine tc_env (d := 3) hE3 ?_
        clear hE7 hE8 hE0 hE3
        refine tc_seq ?_; refine sr ?_; refine tlm ?_; refine tlm ?_; refine tv (o_len Try.underlying22 rfl) ?_; refine tv (o_lss rfl rfl) ?_; refine nq ?_; refine tc_cond rfl (fun h => ?_) (fun h => ?_)
        · have hi : i < l.length := by first | omega | (simp at h; omega)
          obtain ⟨x, hx⟩ : ∃ x, l[i] = x := ⟨_, rfl⟩
          have htk : l.take (i + 1) = l.take i ++ [x] := by rw [List.take_succ_eq_append_getElem hi, hx]
          have hxm : x ∈ l := hx ▸ List.getElem_mem hi
          have hxW := (hW x hxm).at_
          refine tc_skip ?_; refine q_then_n ?_; refine tc_seq ?_; refine tc_block ?_; refine sr ?_; refine tlm ?_; refine tlm ?_; refine tv (o_ixP Try.underlying22 sz35 rfl rfl (by omega) (by repeat (first | exact nn_rs hr (fun _ => by rw [mcs_len]; omega) | apply Nn.left))) ?_; refine tv (o_ldPN (vs := (x).cells) a35 sz35 rfl (by repeat (first | exact hr | apply Rs.left)) (by rw [mcs_at (by omega), hx]) rfl (by decide)) ?_; refine tl_x rfl (o_alloc z35 rfl) ?_; rintro _ _ ⟨b9, rfl, rfl⟩; refine tl_u rfl (o_stUN (l' := x.cells) rfl (by repeat (first | with_reducible exact upd_here | with_reducible exact upd_pt | apply upd_left)) sz35 rfl rfl rfl (by show 3 ≤ 3; decide) rfl) ?_; refine nq ?_; refine sr ?_; refine tv (o_fieldAddr (o := 1) Try.underlying35 rfl rfl sz3 rfl) ?_; refine tv (by first | exact o_load p3 rfl (by repeat (first | with_reducible exact has_here | with_reducible exact has_pt | apply has_left)) rfl | exact o_loadC p3 rfl (by assumption)) ?_; refine tv (o_fieldAddr (o := 2) Try.underlying35 rfl rfl sz5 rfl) ?_; refine tv (by first | exact o_load p5 rfl (by repeat (first | with_reducible exact has_here | with_reducible exact has_pt | apply has_left)) rfl | exact o_loadC p5 rfl (by assumption)) ?_; refine tv (o_eqi rfl rfl) ?_
          refine tl_env (d := 35) (v := .bool (decide (x.gr = 1))) (by show Value.bool (decide ((x.gr : Int) = 1)) = _; congr 1; rw [decide_eq_decide]; omega) ?_; refine tv (o_loadN (vs := (e).cells) a24 sz24 rfl (by repeat (first | with_reducible exact has_here | with_reducible exact has_pt | apply has_left)) (by show 3 ≤ 3; decide) rfl) ?_; refine tl_c rfl (o_call bd37 rfl (Gone_c (p := x.at_) (gs := decide (x.gr = 1)) (e := e))) ?_; rintro _ _ ⟨rfl, rfl⟩; refine tlm ?_; refine tv (o_extract rfl rfl) ?_; refine tv (o_extract rfl rfl) ?_; refine tla ?_; refine tla ?_; refine nq ?_; refine tc_seq ?_; refine sr ?_; refine tlm ?_; refine tv (o_not rfl) ?_; refine nq ?_; refine tc_cond rfl (fun h => ?_) (fun h => ?_)
          · have hg : gnM e x = none := by simpa [gnM] using h
            refine sr ?_; refine tla ?_; refine tla ?_; refine nq ?_; refine tc_ret ?_; refine q_then_r (q_block_r (q_then_r (q_then_r (q_block_r (q_then_r ?_)))))
            have e0 : shiftS l e = ([], 2) := by unfold shiftS; rw [if_neg (by simpa using hne), if_neg (by rw [hem]; decide), if_neg (fun hc => by have := List.all_eq_true.1 hc x ((srt_mem cId_swo).2 hxm); rw [hg] at this; cases this)]
            rw [e0]
            exact ⟨.tuple #[.slice none 0 0, .int .i64 2], A * Sl 3 (.slice none 0 0) 0 [], res2 rfl rfl rfl, fun _ _ h => sl_nil (Dr.sat (by repeat (first | with_reducible exact dr_refl | apply dr_keep | apply dr_drop)) _ _ h), none, 0, rfl, Nat.le_refl _, rfl⟩
          · have hg : (gnM e x).isSome = true := by simpa [gnM] using h
            refine tc_skip ?_; refine q_then_n ?_; refine sr ?_; refine tlm ?_; refine tv (o_fieldAddr (o := 1) Try.underlying35 rfl rfl sz3 rfl) ?_; refine tl_u rfl (o_stU rfl (by repeat (first | with_reducible exact upd_here | with_reducible exact upd_pt | apply upd_left)) sz3 rfl rfl (by show 1 < 3; decide) rfl) ?_; refine nq ?_; refine tc_reg ?_; refine tlm ?_; refine tv (o_loadN (vs := (mvM e x).cells) a35 sz35 rfl (by repeat (first | with_reducible exact has_here | with_reducible exact has_pt | apply has_left)) (by show 3 ≤ 3; decide) rfl) ?_; refine tl_x rfl (o_buildSliceK (k := 3) (l := (mvM e x).cells) Try.underlying22 sz35 z35 rfl rfl (by decide)) ?_; rintro _ _ ⟨b46, rfl, rfl⟩; refine tl_x rfl (o_apB Try.underlying22 Try.underlying22 sz35 by35 z35 rfl (by decide) (by decide) rfl rfl rfl (by repeat (first | with_reducible exact ct_here | apply ct_left)) rfl rfl (by omega) (show _ = mcs ((l.take i).map (mvM e) ++ [mvM e x]) by rw [mcs_append]; rfl)) ?_; rintro _ _ ⟨a47, c47, rfl, hc47, rfl⟩; refine tla ?_; refine tl_nil ?_; refine q_block_n (q_then_n ?_); refine tc_reg ?_; refine tlm ?_; refine tv (by first | exact o_addI rfl rfl (by omega) | exact o_add rfl rfl) ?_; refine tla ?_; refine tl_nil ?_
            refine q_then_n ?_; exact ⟨_, by omega, i + 1, _, _, by omega, by rw [htk]; intro y hy; rcases List.mem_append.1 hy with h1 | h1; exact hp1 y h1; rw [List.mem_singleton.1 h1]; exact hg, rfl, rfl, rfl, rfl, rfl, by rw [htk, List.map_append]; repeat (first | with_reducible exact dr_refl | apply dr_keep | apply dr_drop)⟩
        · obtain rfl : i = n := by first | omega | (simp at h; omega)
          have hta : l.take i = l := List.take_of_length_le (by omega)
          rw [hta] at hp1
          refine tc_eq (show _ = A * pt b3 (cl e.cells 24) * Sl 3 (.slice a7 i c7) i (mcs (l.map (mvM e))) by rw [hta]) ?_; refine tc_exit ?_; refine q_then_e (q_then_e (q_block_x (q_then_n ?_))); refine sr ?_; refine tlm ?_; refine tl_c rfl (o_call bd38 rfl (sorted_c (l := l.map (mvM e)) (pl := false) (hr := rs_sl) (hm := by rw [List.length_map]; exact hm))) ?_; rintro _ _ ⟨a49, c49, rfl, hc49, rfl⟩; refine tla ?_; refine tla ?_; refine nq ?_; refine tc_ret ?_
          have e0 : shiftS l e = (srt (ltc cId) (l.map (mvM e)), 0) := by unfold shiftS; rw [if_neg (by simpa using hne), if_neg (by rw [hem]; decide), if_pos (List.all_eq_true.2 fun x hx => hp1 x ((srt_mem cId_swo).1 hx)), srt_map (mv_id e)]
          rw [e0]
          have el : (srt (ltc cId) (l.map (mvM e))).length = i := by rw [srt_length cId_swo, List.length_map]; exact hm
          exact ⟨.tuple #[.slice a49 i c49, .int .i64 0], A * Sl 3 (.slice a49 i c49) i (mcs (srt (ltc cId) (l.map (mvM e)))), res2 rfl rfl rfl, Dr.sat (by repeat (first | with_reducible exact dr_refl | apply dr_keep | apply dr_drop)), a49, c49, by rw [el], by rw [el]; exact hc49, by rw [el]⟩
end Go.Vl

set_option linter.unusedVariables false
set_option linter.unusedSimpArgs false
namespace Go.Vl
open Go Go.Proofs
/-- Whatever lies there as a value of type t, by the argument's own reading, r holds of. -/
def Rdb {α : Type} (P : Program) (W : World) (t : TypeId) (r : List Value → α → Prop) : Prop :=
  ∀ (H : Type) (enc : TypeId × Value → H) (spare : Nat → Bool) (held : Bool) (fuel : Nat) (cs : List Value) (d : DataW H) (pl : List MemPlace),
    DataW.trod enc P W 0 spare held fuel t cs = some (d, pl) → (∀ n ∈ d.weights P t, n ≤ reachBytes) → ∃ x, r cs x
theorem Rdb.mono {α β : Type} {P : Program} {W : World} {t : TypeId} {r : List Value → α → Prop} {q : List Value → β → Prop} (h : Rdb P W t r) (k : ∀ cs x, r cs x → ∃ y, q cs y) : Rdb P W t q :=
  fun H enc sp hd fu cs d pl h1 h2 => by obtain ⟨x, hx⟩ := h H enc sp hd fu cs d pl h1 h2; exact k cs x hx
def PInt (k : IntKind) (cs : List Value) (n : Int) : Prop := cs = [.int k n] ∧ (Lit.int k n).wf = true
def PBool (cs : List Value) (b : Bool) : Prop := cs = [.bool b]
/-- A slice: its elements' cells, and what each is. -/
def PSl {α : Type} (A : SP) (k b : Nat) (r : List Value → α → Prop) (cs : List Value) (xs : List α) : Prop :=
  ∃ (a : Option Addr) (cap : Nat) (Cs : List (List Value)), cs = [.slice a xs.length cap] ∧ xs.length ≤ cap ∧ xs.length * b ≤ reachBytes ∧ Cs.length = xs.length ∧ (∀ i (h : i < xs.length) (h' : i < Cs.length), Cs[i].length = k ∧ r Cs[i] xs[i]) ∧ Rs A a Cs.flatten
/-- Bytes. -/
def PBys (A : SP) (cs : List Value) (xs : List Nat) : Prop := ∃ a cap, cs = [.slice a xs.length cap] ∧ xs.length ≤ cap ∧ xs.length ≤ 140737488351232 ∧ Rs A a (bys xs) ∧ ∀ x ∈ xs, x < 256
def PInts (A : SP) (cs : List Value) (xs : List Int) : Prop := ∃ a cap, cs = [.slice a xs.length cap] ∧ xs.length ≤ cap ∧ xs.length ≤ 17592186043904 ∧ Rs A a (ints xs) ∧ ∀ x ∈ xs, -9223372036854775808 ≤ x ∧ x ≤ 9223372036854775807
end Go.Vl

set_option linter.unusedVariables false
set_option linter.unusedSimpArgs false
namespace Go.Vl
open Go Go.Proofs
abbrev ub {H : Type} (d : DataW H) : Nat := Go.Proofs.Ytnkeepjpkdjcdaa.Rows.uptoBulk d
abbrev ubs {H : Type} (l : List (DataW H)) : Nat := Go.Proofs.Ytnkeepjpkdjcdaa.Rows.uptoBulkAll l
/-- Whatever lies there as a value of type t, by the argument's own reading, r holds of, and of how much. -/
def Rdu {α : Type} (P : Program) (W : World) (t : TypeId) (r : List Value → α → Prop) (sz : α → Nat) : Prop :=
  ∀ (H : Type) (enc : TypeId × Value → H) (spare : Nat → Bool) (held : Bool) (fuel : Nat) (cs : List Value) (d : DataW H) (pl : List MemPlace),
    DataW.trod enc P W 0 spare held fuel t cs = some (d, pl) → ∃ x, r cs x ∧ sz x ≤ ub d
theorem Rdu.mono {α β : Type} {P : Program} {W : World} {t : TypeId} {r : List Value → α → Prop} {s : α → Nat} {q : List Value → β → Prop} {z : β → Nat} (h : Rdu P W t r s) (k : ∀ cs x, r cs x → ∃ y, q cs y ∧ z y ≤ s x) : Rdu P W t q z :=
  fun H enc sp hd fu cs d pl h1 => by
    obtain ⟨x, hx, hs⟩ := h H enc sp hd fu cs d pl h1
    obtain ⟨y, hy, hz⟩ := k cs x hx
    exact ⟨y, hy, by omega⟩
/-- A slice: its elements' cells, and what each is. -/
def PSu {α : Type} (A : SP) (k : Nat) (r : List Value → α → Prop) (cs : List Value) (xs : List α) : Prop :=
  ∃ (a : Option Addr) (cap : Nat) (Cs : List (List Value)), cs = [.slice a xs.length cap] ∧ xs.length ≤ cap ∧ Cs.length = xs.length ∧ (∀ i (h : i < xs.length) (h' : i < Cs.length), Cs[i].length = k ∧ r Cs[i] xs[i]) ∧ Rs A a Cs.flatten
def szL {α : Type} (sz : α → Nat) (xs : List α) : Nat := (xs.map sz).sum + 1
/-- Bytes. -/
def PByU (A : SP) (cs : List Value) (xs : List Nat) : Prop := ∃ a cap, cs = [.slice a xs.length cap] ∧ xs.length ≤ cap ∧ Rs A a (bys xs) ∧ ∀ x ∈ xs, x < 256
def PInU (A : SP) (cs : List Value) (xs : List Int) : Prop := ∃ a cap, cs = [.slice a xs.length cap] ∧ xs.length ≤ cap ∧ Rs A a (ints xs) ∧ ∀ x ∈ xs, -9223372036854775808 ≤ x ∧ x ≤ 9223372036854775807
end Go.Vl

set_option linter.unusedVariables false
set_option linter.unusedSimpArgs false
namespace Go.Vl
open Go Go.Proofs
theorem Setw {A : SP} {a : Option Addr} {c n : Nat} {l : List Mk} {X : List Mk} {er : Int} {m : Mk} (hX : setS l m = (X, er)) (hr : Rs A a (mcs l) := by repeat (first | with_reducible exact rs_sl | assumption | apply Rs.left)) (hm : l.length = n := by first | assumption | rfl)  (hs : n ≤ 5864062014800 := by omega) : Fn Try.prog 21 #[.slice a n c, .agg m.cells.toArray] A (fun r B => ∃ a2 c2, r = .tuple #[.slice a2 X.length c2, .int .i64 er] ∧ X.length ≤ c2 ∧ B = A * Sl 3 (.slice a2 X.length c2) X.length (mcs X)) := by
  have h := Set_c (A := A) (a := a) (c := c) (l := l) (m := m) hr hm hs
  rw [hX] at h
  exact h
theorem rSetw {A : SP} {a : Option Addr} {c n : Nat} {l : List Mk} {X : List Mk} {er : Int} {m : Mk} (hX : setS l m = (X, er)) (hr : Rs A a (mcs l) := by repeat (first | with_reducible exact rs_sl | assumption | apply Rs.left)) (hm : l.length = n := by first | assumption | rfl)  (hs : n ≤ 5864062014800 := by omega) : Fn Try.prog 22 #[.slice a n c, .agg m.cells.toArray] A (fun r B => ∃ a2 c2, r = .tuple #[.slice a2 X.length c2, .int .i64 er] ∧ X.length ≤ c2 ∧ B = A * Sl 3 (.slice a2 X.length c2) X.length (mcs X)) := by
  have h := rSet_c (A := A) (a := a) (c := c) (l := l) (m := m) hr hm hs
  rw [hX] at h
  exact h
theorem Unsetw {A : SP} {a : Option Addr} {c n : Nat} {l : List Mk} {X : List Mk} {er : Int} {id : Nat} (hX : unsetS l id = (X, er)) (hr : Rs A a (mcs l) := by repeat (first | with_reducible exact rs_sl | assumption | apply Rs.left)) (hm : l.length = n := by first | assumption | rfl)  (hs : n ≤ 5864062014800 := by omega) : Fn Try.prog 23 #[.slice a n c, .int .u32 (id : Nat)] A (fun r B => ∃ a2 c2, r = .tuple #[.slice a2 X.length c2, .int .i64 er] ∧ X.length ≤ c2 ∧ B = A * Sl 3 (.slice a2 X.length c2) X.length (mcs X)) := by
  have h := Unset_c (A := A) (a := a) (c := c) (l := l) (id := id) hr hm hs
  rw [hX] at h
  exact h
theorem rUnsetw {A : SP} {a : Option Addr} {c n : Nat} {l : List Mk} {X : List Mk} {er : Int} {id : Nat} (hX : unsetS l id = (X, er)) (hr : Rs A a (mcs l) := by repeat (first | with_reducible exact rs_sl | assumption | apply Rs.left)) (hm : l.length = n := by first | assumption | rfl)  (hs : n ≤ 5864062014800 := by omega) : Fn Try.prog 24 #[.slice a n c, .int .u32 (id : Nat)] A (fun r B => ∃ a2 c2, r = .tuple #[.slice a2 X.length c2, .int .i64 er] ∧ X.length ≤ c2 ∧ B = A * Sl 3 (.slice a2 X.length c2) X.length (mcs X)) := by
  have h := rUnset_c (A := A) (a := a) (c := c) (l := l) (id := id) hr hm hs
  rw [hX] at h
  exact h
theorem Shiftw {A : SP} {a : Option Addr} {c n : Nat} {l : List Mk} {X : List Mk} {er : Int} {e : Ed} (hX : shiftS l e = (X, er)) (hr : Rs A a (mcs l) := by repeat (first | with_reducible exact rs_sl | assumption | apply Rs.left)) (hm : l.length = n := by first | assumption | rfl) (hW : ∀ x ∈ l, MkW x := by assumption) (hE : EdW e := by assumption) (hs : n ≤ 5864062014800 := by omega) : Fn Try.prog 12 #[.slice a n c, .agg e.cells.toArray] A (fun r B => ∃ a2 c2, r = .tuple #[.slice a2 X.length c2, .int .i64 er] ∧ X.length ≤ c2 ∧ B = A * Sl 3 (.slice a2 X.length c2) X.length (mcs X)) := by
  have h := Shift_c (A := A) (a := a) (c := c) (l := l) (e := e) hr hm hW hE hs
  rw [hX] at h
  exact h
theorem rShiftw {A : SP} {a : Option Addr} {c n : Nat} {l : List Mk} {X : List Mk} {er : Int} {e : Ed} (hX : shiftS l e = (X, er)) (hr : Rs A a (mcs l) := by repeat (first | with_reducible exact rs_sl | assumption | apply Rs.left)) (hm : l.length = n := by first | assumption | rfl) (hW : ∀ x ∈ l, MkW x := by assumption) (hE : EdW e := by assumption) (hs : n ≤ 5864062014800 := by omega) : Fn Try.prog 13 #[.slice a n c, .agg e.cells.toArray] A (fun r B => ∃ a2 c2, r = .tuple #[.slice a2 X.length c2, .int .i64 er] ∧ X.length ≤ c2 ∧ B = A * Sl 3 (.slice a2 X.length c2) X.length (mcs X)) := by
  have h := rShift_c (A := A) (a := a) (c := c) (l := l) (e := e) hr hm hW hE hs
  rw [hX] at h
  exact h
theorem wrap_u32M (a : Nat) : IntKind.u32.wrap (a : Int) = ((a % 4294967296 : Nat) : Int) := by simp [IntKind.wrap, IntKind.bits, IntKind.signed]
def rm40 (i : Nat) : List Mk := (List.range i).map fun j => ⟨99, (j : Nat), 7⟩
theorem rm_succ (i : Nat) : rm40 (i + 1) = rm40 i ++ [⟨99, i, 7⟩] := by unfold rm40; rw [List.range_succ, List.map_append]; rfl
theorem rm_len (i : Nat) : (rm40 i).length = i := by unfold rm40; simp
theorem rm_at {l : List Mk} {n i : Nat} (hl : l.length = n) (h : i < 40) : ∃ h2 : n + i < (l ++ rm40 40).length, (l ++ rm40 40)[n + i] = ⟨99, i, 7⟩ := by
  refine ⟨by rw [List.length_append, rm_len]; omega, ?_⟩
  rw [List.getElem_append_right (by omega)]
  simp [rm40, hl]
theorem rs_room {A : SP} {a : Option Addr} {n : Nat} {l : List Mk} (h : Rs A a (mcs (l ++ rm40 40))) (hm : l.length = n) : Rs A a (mcs l) := by
  have h2 := h.sub (n * 3)
  rwa [mcs_take, List.take_left' hm] at h2
attribute [local irreducible] Sl pt ro SlB
set_option maxRecDepth 20000 in
set_option maxHeartbeats 2000000 in
theorem spare_c {A : SP} {a : Option Addr} {c n : Nat} {l : List Mk} (hr : Rs A a (mcs l) := by repeat (first | assumption | with_reducible exact rs_sl | with_reducible exact rs_pt0 | exact rs_none | apply Rs.left)) (hm : l.length = n := by first | assumption | rfl) (hs : n ≤ 5864062014700 := by omega) :
    Fn Try.prog 11 #[.slice a n c] (A) (fun r B => ∃ a2 c2, r = .slice a2 n c2 ∧ n + 40 ≤ c2 ∧ B = A * Sl 3 (.slice a2 (n + 40) c2) (n + 40) (mcs (l ++ rm40 40))) := by
  refine fn_enterW (args := [.slice a n c]) Try.func11 rfl Try.ntmps11 (by simp) ?_; refine sr ?_; refine tla ?_; refine nq ?_; refine sr ?_; refine tla ?_; refine nq ?_; refine sr ?_; refine tlm ?_; refine tlm ?_; refine tl_x rfl (o_apN Try.underlying22 Try.underlying22 sz35 by35 z35 rfl (by decide) (by decide) rfl rfl (ys := mcs l) hr (by rw [mcs_len, hm]) (mcs_one _) (by omega)) ?_; rintro _ _ ⟨a7, c7, rfl, hc7, rfl⟩; refine tla ?_; refine nq ?_; refine tc_seq ?_; refine sr ?_; refine tla ?_; refine nq ?_; refine tc_block ?_; refine tc_loop (fun kk ρ BB => ∃ (i : Nat) (a3 : Option Addr) (c3 : Nat), (i ≤ 40) ∧ (n + i ≤ c3) ∧ kk = 40 - i ∧ ρ 3 = .slice a3 (n + i) c3 ∧ ρ 4 = .int .i64 (i : Nat) ∧ ρ 0 = .slice a n c ∧ Dr BB (A * Sl 3 (.slice a3 (n + i) c3) (n + i) (mcs (l ++ rm40 i)))) (m := 40 - (0)) ?_ ?_
  · exact ⟨0, a7, c7, by omega, hc7, rfl, rfl, rfl, rfl, by unfold rm40; rw [List.range_zero, List.map_nil, List.append_nil]; repeat (first | with_reducible exact dr_refl | apply dr_keep | apply dr_drop)⟩
  · intro k ρ B hI
    obtain ⟨i, a3, c3, hp0, hp1, hkk1, hE3, hE4, hE0, hBA⟩ := hI
    refine tc_pre hBA.sat ?_
    clear hBA
    refine tc_env (d := 3) hE3 ?_; refine tc_env (d := 4) hE4 ?_; refine tc_env (d := 0) hE0 ?_
    clear hE3 hE4 hE0
    refine tc_seq ?_; refine sr ?_; refine tlm ?_; refine tv (o_lss rfl rfl) ?_; refine nq ?_; refine tc_cond rfl (fun h => ?_) (fun h => ?_)
    · have hi : i < 40 := by first | omega | (simp at h; omega)
      refine tc_skip ?_; refine q_then_n ?_; refine tc_seq ?_; refine tc_block ?_; refine tc_reg ?_; refine tlm ?_; refine tlm ?_; refine tv (o_bS (l := [_, _, _]) (pv_cons (by conv => lhs; whnf) (pv_cons (by conv => lhs; whnf) (pv_cons (by conv => lhs; whnf) pv_nil))) Try.underlying35 z35 (pl35 Try.underlying35) rfl) ?_; refine tl_x rfl (o_buildSliceK (k := 3) (l := (Mk.mk 99 i 7).cells) Try.underlying22 sz35 z35 rfl rfl (by decide)) ?_; rintro _ _ ⟨b15, rfl, rfl⟩; refine tl_x rfl (o_apB Try.underlying22 Try.underlying22 sz35 by35 z35 rfl (by decide) (by decide) rfl rfl rfl (by repeat (first | with_reducible exact ct_here | apply ct_left)) rfl rfl (by omega) (show _ = mcs (l ++ rm40 (i + 1)) by rw [rm_succ, ← List.append_assoc, mcs_append (l ++ rm40 i)]; rfl)) ?_; rintro _ _ ⟨a16, c16, rfl, hc16, rfl⟩; refine tla ?_; refine tl_nil ?_; refine q_block_n (q_then_n ?_); refine tc_reg ?_; refine tlm ?_; refine tv (by first | exact o_addI rfl rfl (by omega) | exact o_add rfl rfl) ?_; refine tla ?_; refine nq ?_; exact ⟨_, by omega, i + 1, _, _, by omega, hc16, rfl, rfl, rfl, rfl, (by repeat (first | with_reducible exact dr_refl | apply dr_keep | apply dr_drop))⟩
    · obtain rfl : i = 40 := by first | omega | (simp at h; omega)
      refine tc_exit ?_; refine q_then_e (q_then_e (q_block_x (q_then_n ?_))); refine sr ?_; refine tlm ?_; refine tlm ?_; refine tv (o_len Try.underlying22 rfl) ?_; refine tv (o_slice (l := 0) (h := n) Try.underlying22 sz35 rfl bnd_none (bnd_nat rfl) (by omega) (by omega)) ?_; refine tl_env (d := 20) (v := .slice a3 n c3) (by show Value.slice (cutAddr _ _ 0 3) (n - 0) (c3 - 0) = _; rw [show cutAddr a3 c3 0 3 = a3 by unfold cutAddr; cases a3 <;> simp [Addr.add]]; rfl) ?_; refine tla ?_; refine nq ?_; refine tc_ret ?_; exact ⟨.slice a3 n c3, _, res1 rfl rfl, fun _ _ h => h, a3, c3, rfl, hp1, rfl⟩
set_option maxRecDepth 20000 in
set_option maxHeartbeats 2000000 in
theorem kept_c {A : SP} {a b : Option Addr} {c d n : Nat} {l : List Mk} (hr : Rs A a (mcs (l ++ rm40 40)) := by repeat (first | assumption | with_reducible exact rs_sl | with_reducible exact rs_pt0 | exact rs_none | apply Rs.left)) (hr2 : Rs A b (mcs l) := by repeat (first | assumption | with_reducible exact rs_sl | with_reducible exact rs_pt0 | exact rs_none | apply Rs.left)) (hm : l.length = n := by first | assumption | rfl) (hc : n + 40 ≤ c := by omega) (hs : n ≤ 5864062014800 := by omega) :
    Fn Try.prog 29 #[.slice a n c, .slice b n d] (A) (fun r B => r = .bool true ∧ A = B) := by
  refine fn_enterW (args := [.slice a n c, .slice b n d]) Try.func29 rfl Try.ntmps29 (by simp) ?_; refine sr ?_; refine tla ?_; refine nq ?_; refine sr ?_; refine tlm ?_; refine tlm ?_; refine tv (o_len Try.underlying22 rfl) ?_; refine tv (by first | exact o_addI rfl rfl (by omega) | exact o_add rfl rfl) ?_; refine tl_env (d := 10) (v := .int .i64 ((n + 40 : Nat) : Int)) (rfl) ?_; refine tv (o_slice (l := 0) (h := n + 40) Try.underlying22 sz35 rfl bnd_none (bnd_nat rfl) (by omega) (by omega)) ?_; refine tl_env (d := 11) (v := .slice a (n + 40) c) (by show Value.slice (cutAddr _ _ 0 3) (n + 40 - 0) (c - 0) = _; rw [show cutAddr a c 0 3 = a by unfold cutAddr; cases a <;> simp [Addr.add]]; rfl) ?_; refine tla ?_; refine nq ?_; refine tc_seq ?_; refine sr ?_; refine tla ?_; refine nq ?_; refine tc_block ?_; refine tc_loop (fun kk ρ BB => ∃ (i : Nat), (i ≤ 40) ∧ kk = 40 - i ∧ ρ 6 = .int .i64 (i : Nat) ∧ ρ 0 = .slice a n c ∧ ρ 1 = .slice b n d ∧ ρ 5 = .slice a (n + 40) c ∧ BB = A) (m := 40 - (0)) ?_ ?_
  · exact ⟨0, by omega, rfl, rfl, rfl, rfl, rfl, rfl⟩
  · intro k ρ B hI
    obtain ⟨i, hp0, hkk1, hE6, hE0, hE1, hE5, hBA⟩ := hI
    obtain rfl := hBA.symm
    refine tc_env (d := 6) hE6 ?_; refine tc_env (d := 0) hE0 ?_; refine tc_env (d := 1) hE1 ?_; refine tc_env (d := 5) hE5 ?_
    clear hE6 hE0 hE1 hE5
    refine tc_seq ?_; refine sr ?_; refine tlm ?_; refine tv (o_lss rfl rfl) ?_; refine nq ?_; refine tc_cond rfl (fun h => ?_) (fun h => ?_)
    · have hi : i < 40 := by first | omega | (simp at h; omega)
      obtain ⟨hi2, hx⟩ := rm_at (l := l) hm hi
      refine tc_skip ?_; refine q_then_n ?_; refine tc_seq ?_; refine tc_block ?_; refine sr ?_; refine tlm ?_; refine tlm ?_; refine tv (o_len Try.underlying22 rfl) ?_; refine tlm ?_; refine tv (by first | exact o_addI rfl rfl (by omega) | exact o_add rfl rfl) ?_; refine tl_env (d := 20) (v := .int .i64 ((n + i : Nat) : Int)) (rfl) ?_; refine tv (o_ixP Try.underlying22 sz35 rfl rfl (by omega) (nn_rs hr (fun _ => by rw [mcs_len]; omega))) ?_; refine tv (o_ldPN (vs := ((Mk.mk 99 i 7)).cells) a35 sz35 rfl (by repeat (first | exact hr | apply Rs.left)) (by rw [mcs_at (by omega), hx]) rfl (by decide)) ?_; refine tlm ?_; refine tv (o_bS (l := [_, _, _]) (pv_cons (by conv => lhs; whnf) (pv_cons (by conv => lhs; whnf) (pv_cons (by conv => lhs; whnf) pv_nil))) Try.underlying35 z35 (pl35 Try.underlying35) rfl) ?_; refine tv (o_neMk (a := Mk.mk 99 i 7) (b := Mk.mk 99 i 7) rfl rfl) ?_; refine nq ?_; refine tc_cond rfl (fun h => ?_) (fun h => ?_)
      · exfalso; simp at h
      · try simp only [lv1, lv2, lv3, lv4, lv5, lv6, Bool.not_true, Bool.not_false] at h
        refine tc_skip ?_; refine q_block_n (q_then_n ?_); refine tc_reg ?_; refine tlm ?_; refine tv (by first | exact o_addI rfl rfl (by omega) | exact o_add rfl rfl) ?_; refine tla ?_; refine nq ?_; exact ⟨_, by omega, i + 1, by omega, rfl, rfl, rfl, rfl, rfl, rfl⟩
    · obtain rfl : i = 40 := by first | omega | (simp at h; omega)
      refine tc_exit ?_; refine q_then_e (q_then_e (q_block_x (q_then_n ?_))); refine sr ?_; refine tlm ?_; refine tlm ?_; refine tl_c rfl (o_call bd39 rfl (rSame_c (l := l) (r2 := l) (hr := rs_room hr hm))) ?_; rintro _ _ ⟨rfl, rfl⟩; refine tl_env (d := 28) (v := .bool true) (by show Value.bool (decide _) = _; rw [decide_eq_true rfl]) ?_; refine tla ?_; refine nq ?_; refine tc_ret ?_; refine ⟨.bool true, _, res1 rfl rfl, ?_, rfl, rfl⟩; exact Dr.sat (by repeat (first | with_reducible exact dr_refl | apply dr_keep | apply dr_drop))
theorem setW1 : setS [⟨3, 3, 1⟩] ⟨2, 3, 0⟩ = ([⟨2, 3, 0⟩, ⟨3, 3, 1⟩], 0) := by
  simp [setS, mayS, okM, outM, srt, mg_cons, mg_nil_l, mg_nil_r, ltc, cId]
theorem shiftW1 : shiftS [⟨2, 3, 0⟩, ⟨3, 3, 1⟩] ⟨3, 0, 2⟩ = ([⟨2, 3, 0⟩, ⟨3, 5, 1⟩], 0) := by
  simp [shiftS, mayS, okM, edMay, gnM, goneS, mvM, srt, mg_cons, mg_nil_l, mg_nil_r, ltc, cId]
theorem mayW1 : mayS [⟨2, 3, 0⟩, ⟨3, 5, 1⟩] = 0 := by simp [mayS, okM]
theorem checkW1 : checkS [⟨2, 3, 0⟩, ⟨3, 5, 1⟩] 5 = 0 := by simp [checkS, mayS, okM]
theorem checkW2 : checkS [⟨2, 3, 0⟩, ⟨3, 5, 1⟩] 4 = 190 := by simp [checkS, mayS, okM]
theorem packW1 : (packS [⟨2, 3, 0⟩, ⟨3, 5, 1⟩]).2 = 0 := by unfold packS; rw [mayW1]; rfl
theorem packW2 : (packS [⟨2, 3, 0⟩, ⟨3, 5, 1⟩]).1.size = 32 := by
  unfold packS; rw [mayW1, if_neg (by decide)]
  show (sob _).size = 32
  simp [sob, ByteArray.size, pkS_len, srt_length cId_swo]
set_option maxRecDepth 20000 in
set_option maxHeartbeats 2000000 in
theorem twice_f (F : SP) {aa ab aw ai al : Option Addr} {ca cb cw ci c n m : Nat} {l X : List Mk} (hb : Rs F ab (mcs X)) (hw : Rs F aw (mcs X)) (hi_ : Rs F ai (mcs (l ++ rm40 40))) (hl : Rs F al (mcs l)) (hm : l.length = n) (hX : X.length = m) (hc : n + 40 ≤ ci) (hn : n ≤ 5864062014640) (hmn : m ≤ 5864062014641) :
    Fn Try.prog 14 #[.slice aa m ca, .slice ab m cb, .slice aw m cw, .slice ai n ci, .slice al n c] (F * Sl 3 (.slice aa (m) ca) (m) (mcs (X))) (fun r B => r = .bool true ∧ B = F) := by
  refine fn_enterW (args := [.slice aa m ca, .slice ab m cb, .slice aw m cw, .slice ai n ci, .slice al n c]) Try.func14 rfl Try.ntmps14 (by simp) ?_; refine sr ?_; refine tla ?_; refine nq ?_; refine tc_seq ?_; refine sr ?_; refine tlm ?_; refine tlm ?_; refine tl_c rfl (o_call bd39 rfl (rSame_c (l := X) (r2 := X) (hr := rs_sl))) ?_; rintro _ _ ⟨rfl, rfl⟩; refine tl_env (d := 16) (v := .bool true) (by show Value.bool (decide _) = _; rw [decide_eq_true rfl]) ?_; refine tv (o_not rfl) ?_; refine tlm ?_; refine tl_bool (d := 18) rfl (fun h => ?_) (fun h => ?_)
  · exfalso; simp at h
  · try simp only [lv1, lv2, lv3, lv4, lv5, lv6, Bool.not_true, Bool.not_false] at h
    refine tlm ?_; refine tlm ?_; refine tl_c rfl (o_call bd39 rfl (rSame_c (l := X) (r2 := X))) ?_; rintro _ _ ⟨rfl, rfl⟩; refine tl_env (d := 21) (v := .bool true) (by show Value.bool (decide _) = _; rw [decide_eq_true rfl]) ?_; refine tv (o_not rfl) ?_; refine tv (o_pick_f rfl (by conv => lhs; whnf)) ?_; refine tlm ?_; refine tl_bool (d := 24) rfl (fun h => ?_) (fun h => ?_)
    · exfalso; simp at h
    · try simp only [lv1, lv2, lv3, lv4, lv5, lv6, Bool.not_true, Bool.not_false] at h
      refine tlm ?_; refine tlm ?_; refine tl_c rfl (o_call bd29 rfl (kept_c (l := l))) ?_; rintro _ _ ⟨rfl, rfl⟩; refine tv (o_not rfl) ?_; refine tv (o_pick_f rfl (by conv => lhs; whnf)) ?_; refine nq ?_; refine tc_cond rfl (fun h => ?_) (fun h => ?_)
      · exfalso; simp at h
      · try simp only [lv1, lv2, lv3, lv4, lv5, lv6, Bool.not_true, Bool.not_false] at h
        refine tc_skip ?_; refine q_then_n ?_; refine tc_seq ?_; refine sr ?_; refine tla ?_; refine nq ?_; refine tc_block ?_; refine tc_loop (fun kk ρ BB => ∃ (i : Nat) (X1 : List Mk), (i ≤ m) ∧ (X1.length = m) ∧ kk = m - i ∧ ρ 11 = .int .i64 (i : Nat) ∧ ρ 0 = .slice aa m ca ∧ ρ 1 = .slice ab m cb ∧ ρ 2 = .slice aw m cw ∧ ρ 3 = .slice ai n ci ∧ ρ 4 = .slice al n c ∧ BB = F * Sl 3 (.slice aa (m) ca) (m) (mcs (X1))) (m := m - (0)) ?_ ?_
        · exact ⟨0, X, by omega, hX, rfl, rfl, rfl, rfl, rfl, rfl, rfl, rfl⟩
        · intro k ρ B hI
          obtain ⟨i, X1, hp0, hp1, hkk1, hE11, hE0, hE1, hE2, hE3, hE4, rfl⟩ := hI
          refine tc_env (d := 11) hE11 ?_; refine tc_env (d := 0) hE0 ?_; refine tc_env (d := 1) hE1 ?_; refine tc_env (d := 2) hE2 ?_; refine tc_env (d := 3) hE3 ?_; refine tc_env (d := 4) hE4 ?_
          clear hE11 hE0 hE1 hE2 hE3 hE4
          refine tc_seq ?_; refine sr ?_; refine tlm ?_; refine tlm ?_; refine tv (o_len Try.underlying22 rfl) ?_; refine tv (o_lss rfl rfl) ?_; refine nq ?_; refine tc_cond rfl (fun h => ?_) (fun h => ?_)
          · have hi : i < X1.length := by first | omega | (simp at h; omega)
            refine tc_skip ?_; refine q_then_n ?_; refine tc_seq ?_; refine tc_block ?_; refine tc_reg ?_; refine tlm ?_; refine tlm ?_; refine tlm ?_; refine tv (by first | exact o_conv32 Try.underlying3 Try.underlying33 rfl | exact o_conv Try.underlying3 Try.underlying33 rfl) ?_; refine tl_env (d := 39) (v := .int .u32 ((i % 4294967296 : Nat) : Int)) (by show Value.int .u32 (IntKind.u32.wrap (i : Int)) = _; rw [wrap_u32M]) ?_; refine tv (o_add rfl rfl) ?_; refine tl_env (d := 40) (v := .int .u32 (((1000 + i % 4294967296) % 4294967296 : Nat) : Int)) (by show Value.int .u32 (IntKind.u32.wrap (1000 + ((i % 4294967296 : Nat) : Int))) = _; rw [show (1000 : Int) + ((i % 4294967296 : Nat) : Int) = ((1000 + i % 4294967296 : Nat) : Int) by omega, wrap_u32M]) ?_; refine tv (o_bS (l := [_, _, _]) (pv_cons (by conv => lhs; whnf) (pv_cons (by conv => lhs; whnf) pv_nil)) Try.underlying35 z35 (pl35 Try.underlying35) rfl) ?_; refine tv (o_ixP Try.underlying22 sz35 rfl rfl (by omega) (by repeat (first | exact nn_sl (by decide) | apply Nn.left))) ?_; refine tl_u rfl (o_stPN (vs := (Mk.mk ((1000 + i % 4294967296) % 4294967296) (-5) 0).cells) (ys := mcs (X1.set i ⟨(1000 + i % 4294967296) % 4294967296, -5, 0⟩)) sz35 rfl rfl rfl rfl (by decide) (by repeat (first | with_reducible exact ct_here | apply ct_left)) (by omega) (mcs_spl (by omega))) ?_
            refine tl_nil ?_; refine q_block_n (q_then_n ?_); refine tc_reg ?_; refine tlm ?_; refine tv (by first | exact o_addI rfl rfl (by omega) | exact o_add rfl rfl) ?_; refine tla ?_; refine nq ?_; exact ⟨_, by omega, i + 1, _, by omega, by rw [List.length_set]; exact hp1, rfl, rfl, rfl, rfl, rfl, rfl, rfl, rfl⟩
          · try simp only [lv1, lv2, lv3, lv4, lv5, lv6, Bool.not_true, Bool.not_false] at h
            refine tc_exit ?_; refine q_then_e (q_then_e (q_block_x (q_then_n ?_))); refine sr ?_; refine tlm ?_; refine tla ?_; refine nq ?_; refine tc_seq ?_; refine sr ?_; refine tla ?_; refine nq ?_; refine tc_block ?_; refine tc_loop (fun kk ρ BB => ∃ (j : Nat) (ag : Option Addr) (cg : Nat) (Y : List Mk), (j ≤ 40) ∧ kk = 40 - j ∧ ρ 12 = .slice ag (m + j) cg ∧ ρ 13 = .int .i64 (j : Nat) ∧ ρ 1 = .slice ab m cb ∧ ρ 2 = .slice aw m cw ∧ ρ 3 = .slice ai n ci ∧ ρ 4 = .slice al n c ∧ Dr BB (F * Sl 3 (.slice ag (m + j) cg) (m + j) (mcs (Y)))) (m := 40 - (0)) ?_ ?_
            · exact ⟨0, aa, ca, X1, by omega, rfl, rfl, rfl, rfl, rfl, rfl, rfl, (by repeat (first | with_reducible exact dr_refl | apply dr_keep | apply dr_drop))⟩
            · intro k ρ B hI
              obtain ⟨j, ag, cg, Y, hq0, hkk2, hE12, hE13, hE1, hE2, hE3, hE4, hBA⟩ := hI
              refine tc_pre hBA.sat ?_
              clear hBA
              refine tc_env (d := 12) hE12 ?_; refine tc_env (d := 13) hE13 ?_; refine tc_env (d := 1) hE1 ?_; refine tc_env (d := 2) hE2 ?_; refine tc_env (d := 3) hE3 ?_; refine tc_env (d := 4) hE4 ?_
              clear hE12 hE13 hE1 hE2 hE3 hE4
              refine tc_seq ?_; refine sr ?_; refine tlm ?_; refine tv (o_lss rfl rfl) ?_; refine nq ?_; refine tc_cond rfl (fun h => ?_) (fun h => ?_)
              · have hj : j < 40 := by first | omega | (simp at h; omega)
                refine tc_skip ?_; refine q_then_n ?_; refine tc_seq ?_; refine tc_block ?_; refine tc_reg ?_; refine tlm ?_; refine tv (o_bS (l := [_, _, _]) (pv_cons (by conv => lhs; whnf) pv_nil) Try.underlying35 z35 (pl35 Try.underlying35) rfl) ?_; refine tl_x rfl (o_buildSliceK (k := 3) (l := (Mk.mk 7 0 0).cells) Try.underlying22 sz35 z35 rfl rfl (by decide)) ?_; rintro _ _ ⟨b50, rfl, rfl⟩; refine tl_x rfl (o_apB Try.underlying22 Try.underlying22 sz35 by35 z35 rfl (by decide) (by decide) rfl rfl rfl (by repeat (first | with_reducible exact ct_here | apply ct_left)) rfl rfl (by omega) (show _ = mcs (Y ++ [⟨7, 0, 0⟩]) by rw [mcs_append]; rfl)) ?_; rintro _ _ ⟨a51, c51, rfl, hc51, rfl⟩; refine tla ?_; refine tl_nil ?_; refine q_block_n (q_then_n ?_); refine tc_reg ?_; refine tlm ?_; refine tv (by first | exact o_addI rfl rfl (by omega) | exact o_add rfl rfl) ?_; refine tla ?_; refine nq ?_; exact ⟨_, by omega, j + 1, _, _, _, by omega, rfl, rfl, rfl, rfl, rfl, rfl, rfl, (by repeat (first | with_reducible exact dr_refl | apply dr_keep | apply dr_drop))⟩
              · try simp only [lv1, lv2, lv3, lv4, lv5, lv6, Bool.not_true, Bool.not_false] at h
                refine tc_exit ?_; refine q_then_e (q_then_e (q_block_x (q_then_n ?_))); refine sr ?_; refine tlm ?_; refine tlm ?_; refine tl_c rfl (o_call bd39 rfl (rSame_c (l := X) (r2 := X))) ?_; rintro _ _ ⟨rfl, rfl⟩; refine tl_env (d := 54) (v := .bool true) (by show Value.bool (decide _) = _; rw [decide_eq_true rfl]) ?_; refine tlm ?_; refine tl_bool (d := 55) rfl (fun h => ?_) (fun h => ?_)
                · try simp only [lv1, lv2, lv3, lv4, lv5, lv6, Bool.not_true, Bool.not_false] at h
                  refine tlm ?_; refine tlm ?_; refine tl_c rfl (o_call bd29 rfl (kept_c (l := l))) ?_; rintro _ _ ⟨rfl, rfl⟩; refine tv (o_pick_t rfl (by conv => lhs; whnf)) ?_; refine tla ?_; refine nq ?_; refine tc_ret ?_; exact ⟨.bool true, F, res1 rfl rfl, Dr.sat (by repeat (first | with_reducible exact dr_refl | apply dr_keep | apply dr_drop)), rfl, rfl⟩
                · exfalso; simp at h
set_option maxRecDepth 20000 in
set_option maxHeartbeats 2000000 in
theorem worksM_c {A : SP} :
    Fn Try.prog 15 #[] (A) (fun r B => r = .bool true ∧ A = B) := by
  refine fn_enterW (args := []) Try.func15 rfl Try.ntmps15 (by simp) ?_; refine sr ?_; refine tla ?_; refine nq ?_; refine sr ?_; refine tv (o_bS (l := [_, _, _]) (pv_cons (by conv => lhs; whnf) (pv_cons (by conv => lhs; whnf) (pv_cons (by conv => lhs; whnf) pv_nil))) Try.underlying35 z35 (pl35 Try.underlying35) rfl) ?_; refine tl_x rfl (o_buildSliceK (k := 3) (l := (Mk.mk 3 3 1).cells) Try.underlying22 sz35 z35 rfl rfl (by decide)) ?_; rintro _ _ ⟨b9, rfl, rfl⟩; refine tv (o_bS (l := [_, _, _]) (pv_cons (by conv => lhs; whnf) (pv_cons (by conv => lhs; whnf) pv_nil)) Try.underlying35 z35 (pl35 Try.underlying35) rfl) ?_; refine tl_c rfl (o_call bd21 rfl (Setw (l := [⟨3, 3, 1⟩]) (m := ⟨2, 3, 0⟩) (n := 1) setW1 (hr := (show Rs _ _ (Mk.mk 3 3 1).cells from rs_pt rfl)))) ?_; rintro _ _ ⟨a11, c11, rfl, hc11, rfl⟩; refine tlm ?_; refine tv (o_extract rfl rfl) ?_; refine tv (o_extract rfl rfl) ?_; refine tla ?_; refine tla ?_; refine nq ?_; refine sr ?_; refine tlm ?_; refine tv (o_bS (l := [_, _, _]) (pv_cons (by conv => lhs; whnf) (pv_cons (by conv => lhs; whnf) pv_nil)) Try.underlying24 z24 (pl24 Try.underlying24) rfl) ?_; refine tl_c rfl (o_call bd12 rfl (Shiftw (l := [⟨2, 3, 0⟩, ⟨3, 3, 1⟩]) (e := ⟨3, 0, 2⟩) (n := 2) shiftW1 (hW := by intro x hx; simp at hx; rcases hx with rfl | rfl <;> exact ⟨by decide, by decide, by decide⟩) (hE := ⟨by decide, by decide, by decide⟩))) ?_
  rintro _ _ ⟨a17, c17, rfl, hc17, rfl⟩; refine tlm ?_; refine tv (o_extract rfl rfl) ?_; refine tv (o_extract rfl rfl) ?_; refine tla ?_; refine tla ?_; refine nq ?_; refine sr ?_; refine tlm ?_; refine tl_c rfl (o_call bd27 rfl (Pack_c (l := [⟨2, 3, 0⟩, ⟨3, 5, 1⟩]) (n := 2) (hW := by intro x hx; simp at hx; rcases hx with rfl | rfl <;> exact ⟨by decide, by decide, by decide⟩))) ?_; rintro _ _ ⟨rfl, rfl⟩; refine tlm ?_; refine tv (o_extract rfl rfl) ?_; refine tv (o_extract rfl rfl) ?_; refine tl_env (d := 24) (v := .int .i64 0) (by show Value.int .i64 _ = _; rw [packW1]) ?_; refine tla ?_; refine tla ?_; refine nq ?_; refine sr ?_; refine tlm ?_; refine tv (o_eqi rfl rfl) ?_; refine tlm ?_; refine tl_bool (d := 27) rfl (fun h => ?_) (fun h => ?_)
  · try simp only [lv1, lv2, lv3, lv4, lv5, lv6, Bool.not_true, Bool.not_false] at h
    refine tlm ?_; refine tv (o_eqi rfl rfl) ?_; refine tv (o_pick_t rfl (by conv => lhs; whnf)) ?_; refine tlm ?_; refine tl_bool (d := 31) rfl (fun h => ?_) (fun h => ?_)
    · try simp only [lv1, lv2, lv3, lv4, lv5, lv6, Bool.not_true, Bool.not_false] at h
      refine tlm ?_; refine tv (o_eqi rfl rfl) ?_; refine tv (o_pick_t rfl (by conv => lhs; whnf)) ?_; refine tlm ?_; refine tl_bool (d := 35) rfl (fun h => ?_) (fun h => ?_)
      · try simp only [lv1, lv2, lv3, lv4, lv5, lv6, Bool.not_true, Bool.not_false] at h
        refine tlm ?_; refine tv (o_len Try.underlying22 rfl) ?_; refine tv (o_eqi rfl rfl) ?_; refine tv (o_pick_t rfl (by conv => lhs; whnf)) ?_; refine tlm ?_; refine tl_bool (d := 40) rfl (fun h => ?_) (fun h => ?_)
        · try simp only [lv1, lv2, lv3, lv4, lv5, lv6, Bool.not_true, Bool.not_false] at h
          refine tlm ?_; refine tv (o_ixP Try.underlying22 sz35 rfl rfl (by decide) (by repeat (first | exact nn_sl (by decide) | apply Nn.left))) ?_; refine tv (o_ldPN (vs := (Mk.mk 2 3 0).cells) a35 sz35 rfl (by repeat (first | with_reducible exact rs_sl | apply Rs.left)) rfl rfl (by decide)) ?_; refine tv (o_bS (l := [_, _, _]) (pv_cons (by conv => lhs; whnf) (pv_cons (by conv => lhs; whnf) pv_nil)) Try.underlying35 z35 (pl35 Try.underlying35) rfl) ?_; refine tv (o_eqMk (a := ⟨2, 3, 0⟩) (b := ⟨2, 3, 0⟩) rfl rfl) ?_; refine tv (o_pick_t rfl (by conv => lhs; whnf)) ?_; refine tlm ?_; refine tl_bool (d := 47) rfl (fun h => ?_) (fun h => ?_)
          · try simp only [lv1, lv2, lv3, lv4, lv5, lv6, Bool.not_true, Bool.not_false] at h
            refine tlm ?_; refine tv (o_ixP Try.underlying22 sz35 rfl rfl (by decide) (by repeat (first | exact nn_sl (by decide) | apply Nn.left))) ?_; refine tv (o_ldPN (vs := (Mk.mk 3 5 1).cells) a35 sz35 rfl (by repeat (first | with_reducible exact rs_sl | apply Rs.left)) rfl rfl (by decide)) ?_; refine tv (o_bS (l := [_, _, _]) (pv_cons (by conv => lhs; whnf) (pv_cons (by conv => lhs; whnf) (pv_cons (by conv => lhs; whnf) pv_nil))) Try.underlying35 z35 (pl35 Try.underlying35) rfl) ?_; refine tv (o_eqMk (a := ⟨3, 5, 1⟩) (b := ⟨3, 5, 1⟩) rfl rfl) ?_; refine tv (o_pick_t rfl (by conv => lhs; whnf)) ?_; refine tlm ?_; refine tl_bool (d := 54) rfl (fun h => ?_) (fun h => ?_)
            · try simp only [lv1, lv2, lv3, lv4, lv5, lv6, Bool.not_true, Bool.not_false] at h
              refine tlm ?_; refine tv (o_lenS Try.underlying9 rfl) ?_; refine tl_env (d := 56) (v := .int .i64 ((32 : Nat) : Int)) (by show Value.int .i64 ((ByteArray.size _ : Nat) : Int) = _; rw [packW2]) ?_; refine tv (o_eqi rfl rfl) ?_; refine tv (o_pick_t rfl (by conv => lhs; whnf)) ?_; refine tlm ?_; refine tl_bool (d := 59) rfl (fun h => ?_) (fun h => ?_)
              · try simp only [lv1, lv2, lv3, lv4, lv5, lv6, Bool.not_true, Bool.not_false] at h
                refine tlm ?_; refine tl_c rfl (o_call bd18 rfl (Check_c (l := [⟨2, 3, 0⟩, ⟨3, 5, 1⟩]) (n := 2) (z := 5))) ?_; rintro _ _ ⟨rfl, rfl⟩; refine tl_env (d := 61) (v := .int .i64 0) (by show Value.int .i64 _ = _; rw [checkW1]) ?_; refine tv (o_eqi rfl rfl) ?_; refine tv (o_pick_t rfl (by conv => lhs; whnf)) ?_; refine tlm ?_; refine tl_bool (d := 64) rfl (fun h => ?_) (fun h => ?_)
                · try simp only [lv1, lv2, lv3, lv4, lv5, lv6, Bool.not_true, Bool.not_false] at h
                  refine tlm ?_; refine tl_c rfl (o_call bd18 rfl (Check_c (l := [⟨2, 3, 0⟩, ⟨3, 5, 1⟩]) (n := 2) (z := 4))) ?_; rintro _ _ ⟨rfl, rfl⟩; refine tl_env (d := 66) (v := .int .i64 190) (by show Value.int .i64 _ = _; rw [checkW2]) ?_; refine tv (o_eqi rfl rfl) ?_; refine tv (o_pick_t rfl (by conv => lhs; whnf)) ?_; refine tla ?_; refine nq ?_; refine tc_ret ?_; refine ⟨.bool true, _, res1 rfl rfl, ?_, rfl, rfl⟩; exact Dr.sat (by repeat (first | with_reducible exact dr_refl | apply dr_keep | apply dr_drop))
                · exfalso; simp at h
              · exfalso; simp at h
            · exfalso; simp at h
          · exfalso; simp at h
        · exfalso; simp at h
      · exfalso; simp at h
    · exfalso; simp at h
  · exfalso; simp at h
end Go.Vl

set_option linter.unusedVariables false
set_option linter.unusedSimpArgs false
namespace Go.Vl
open Go Go.Proofs
def PMks (A : SP) (cs : List Value) (l : List Mk) : Prop := ∃ a c, cs = [.slice a l.length c] ∧ l.length ≤ c ∧ Rs A a (mcs l) ∧ ∀ x ∈ l, MkW x
theorem shift_le {l X : List Mk} {e : Ed} {er : Int} (h : shiftS l e = (X, er)) : X.length ≤ l.length := by
  have h1 : (shiftS l e).1.length ≤ l.length := by
    unfold shiftS
    repeat' split
    all_goals simp [srt_length cId_swo]
  rw [h] at h1; exact h1
theorem set_le {l X : List Mk} {m : Mk} {er : Int} (h : setS l m = (X, er)) : X.length ≤ l.length + 1 := by
  have h1 : (setS l m).1.length ≤ l.length + 1 := by
    have h2 : (outM m.id l).length ≤ l.length := List.length_filter_le _ _
    unfold setS
    repeat' split
    all_goals simp [srt_length cId_swo]
    all_goals omega
  rw [h] at h1; exact h1
theorem unset_le {l X : List Mk} {i : Nat} {er : Int} (h : unsetS l i = (X, er)) : X.length ≤ l.length := by
  have h1 : (unsetS l i).1.length ≤ l.length := by
    have h2 : (outM i l).length ≤ l.length := List.length_filter_le _ _
    unfold unsetS
    repeat' split
    all_goals simp [srt_length cId_swo]
    all_goals omega
  rw [h] at h1; exact h1
attribute [local irreducible] Sl pt ro SlB
set_option maxRecDepth 20000 in
set_option maxHeartbeats 2000000 in
theorem MarksOrders_f (F : SP) {a : Option Addr} {c n : Nat} {l : List Mk} (hr : Rs F a (mcs l)) (hm : l.length = n) (hn : n ≤ 5864062014640) :
    Fn Try.prog 7 #[.slice a n c] (F) (fun r B => r = .bool true ∧ B = F) := by
  refine fn_enterW (args := [.slice a n c]) Try.func7 rfl Try.ntmps7 (by simp) ?_; refine sr ?_; refine tla ?_; refine nq ?_; refine sr ?_; refine tlm ?_; refine tl_c rfl (o_call bd11 rfl (spare_c (l := l))) ?_; rintro _ _ ⟨a5, c5, rfl, hc5, rfl⟩; refine tla ?_; refine nq ?_; refine sr ?_; refine tlm ?_; refine tl_c rfl (o_call bd25 rfl (Order_c (l := l) (hr := rs_room (by repeat (first | with_reducible exact rs_sl | assumption | apply Rs.left)) hm))) ?_; rintro _ _ ⟨a7, c7, rfl, hc7, rfl⟩; refine tlm ?_; refine tl_c rfl (o_call bd25 rfl (Order_c (l := l) (hr := rs_room (by repeat (first | with_reducible exact rs_sl | assumption | apply Rs.left)) hm))) ?_; rintro _ _ ⟨a9, c9, rfl, hc9, rfl⟩; refine tlm ?_; refine tl_c rfl (o_call bd26 rfl (rOrder_c (l := l))) ?_; rintro _ _ ⟨a11, c11, rfl, hc11, rfl⟩; refine tlm ?_; refine tlm ?_; refine tl_c rfl (o_call bd14 rfl (Fn.pre (twice_f (F * Sl 3 (.slice a5 (n + 40) c5) (n + 40) (mcs (l ++ rm40 40)) * Sl 3 (.slice a9 (n) c9) (n) (mcs (srt (ltc cPl) l)) * Sl 3 (.slice a11 (n) c11) (n) (mcs (srt (ltc cPl) l))) (ab := a9) (aw := a11) (ai := a5) (l := l) (X := srt (ltc cPl) l) (by repeat (first | with_reducible exact rs_sl | assumption | apply Rs.left)) (by repeat (first | with_reducible exact rs_sl | assumption | apply Rs.left)) (by repeat (first | with_reducible exact rs_sl | assumption | apply Rs.left)) (by repeat (first | with_reducible exact rs_sl | assumption | apply Rs.left)) hm (by first | assumption | rfl | omega | (rw [srt_length cPl_swo]; exact hm)) (by omega) (by omega) (by omega)) (fun g w h => h.perm (by ac_rfl)))) ?_
  rintro _ _ ⟨rfl, rfl⟩; refine tlm ?_; refine tl_bool (d := 15) rfl (fun h => ?_) (fun h => ?_)
  · try simp only [lv1, lv2, lv3, lv4, lv5, lv6, Bool.not_true, Bool.not_false] at h
    refine tl_c rfl (o_call bd15 rfl (worksM_c)) ?_; rintro _ _ ⟨rfl, rfl⟩; refine tv (o_pick_t rfl (by conv => lhs; whnf)) ?_; refine tla ?_; refine nq ?_; refine tc_ret ?_; exact ⟨.bool true, F, res1 rfl rfl, Dr.sat (by repeat (first | with_reducible exact dr_refl | apply dr_keep | apply dr_drop)), rfl, rfl⟩
  · exfalso; simp at h
set_option maxRecDepth 20000 in
set_option maxHeartbeats 2000000 in
theorem MarksShifts_f (F : SP) {a : Option Addr} {c n : Nat} {l : List Mk} (hr : Rs F a (mcs l)) (hm : l.length = n) (hn : n ≤ 5864062014640) {e : Ed} (hW : ∀ x ∈ l, MkW x) (hE : EdW e) :
    Fn Try.prog 3 #[.slice a n c, .agg e.cells.toArray] (F) (fun r B => r = .bool true ∧ B = F) := by
  refine fn_enterW (args := [.slice a n c, .agg e.cells.toArray]) Try.func3 rfl Try.ntmps3 (by simp) ?_
  obtain ⟨X, er, hX⟩ : ∃ X er, shiftS l e = (X, er) := ⟨_, _, rfl⟩
  have hXl := shift_le hX
  refine sr ?_; refine tl_x rfl (o_box rfl rfl) ?_; rintro _ _ ⟨b3, rfl, rfl⟩; refine tla ?_; refine nq ?_; refine sr ?_; refine tlm ?_; refine tl_c rfl (o_call bd11 rfl (spare_c (l := l))) ?_; rintro _ _ ⟨a13, c13, rfl, hc13, rfl⟩; refine tla ?_; refine nq ?_; refine sr ?_; refine tlm ?_; refine tv (o_loadN (vs := (e).cells) a24 sz24 rfl (by repeat (first | with_reducible exact has_here | with_reducible exact has_pt | apply has_left)) (by show 3 ≤ 3; decide) rfl) ?_; refine tl_c rfl (o_call bd12 rfl (Shiftw (l := l) (e := e) hX (hr := rs_room (by repeat (first | with_reducible exact rs_sl | assumption | apply Rs.left)) hm))) ?_; rintro _ _ ⟨a17, c17, rfl, hc17, rfl⟩; refine tlm ?_; refine tv (o_extract rfl rfl) ?_; refine tv (o_extract rfl rfl) ?_; refine tla ?_; refine tla ?_; refine nq ?_; refine sr ?_; refine tlm ?_; refine tv (o_loadN (vs := (e).cells) a24 sz24 rfl (by repeat (first | with_reducible exact has_here | with_reducible exact has_pt | apply has_left)) (by show 3 ≤ 3; decide) rfl) ?_; refine tl_c rfl (o_call bd12 rfl (Shiftw (l := l) (e := e) hX (hr := rs_room (by repeat (first | with_reducible exact rs_sl | assumption | apply Rs.left)) hm))) ?_; rintro _ _ ⟨a23, c23, rfl, hc23, rfl⟩; refine tlm ?_; refine tv (o_extract rfl rfl) ?_; refine tv (o_extract rfl rfl) ?_; refine tla ?_
  refine tla ?_; refine nq ?_; refine sr ?_; refine tlm ?_; refine tv (o_loadN (vs := (e).cells) a24 sz24 rfl (by repeat (first | with_reducible exact has_here | with_reducible exact has_pt | apply has_left)) (by show 3 ≤ 3; decide) rfl) ?_; refine tl_c rfl (o_call bd13 rfl (rShiftw (l := l) (e := e) hX)) ?_; rintro _ _ ⟨a29, c29, rfl, hc29, rfl⟩; refine tlm ?_; refine tv (o_extract rfl rfl) ?_; refine tv (o_extract rfl rfl) ?_; refine tla ?_; refine tla ?_; refine nq ?_; refine sr ?_; refine tlm ?_; refine tlm ?_; refine tv (o_eqi rfl rfl) ?_; refine tlm ?_; refine tl_bool (d := 35) rfl (fun h => ?_) (fun h => ?_)
  · try simp only [lv1, lv2, lv3, lv4, lv5, lv6, Bool.not_true, Bool.not_false] at h
    refine tlm ?_; refine tlm ?_; refine tlm ?_; refine tlm ?_; refine tlm ?_; refine tl_c rfl (o_call bd14 rfl (Fn.pre (twice_f (F * pt b3 (cl e.cells 24) * Sl 3 (.slice a13 (n + 40) c13) (n + 40) (mcs (l ++ rm40 40)) * Sl 3 (.slice a23 (X.length) c23) (X.length) (mcs (X)) * Sl 3 (.slice a29 (X.length) c29) (X.length) (mcs (X))) (ab := a23) (aw := a29) (ai := a13) (l := l) (X := X) (by repeat (first | with_reducible exact rs_sl | assumption | apply Rs.left)) (by repeat (first | with_reducible exact rs_sl | assumption | apply Rs.left)) (by repeat (first | with_reducible exact rs_sl | assumption | apply Rs.left)) (by repeat (first | with_reducible exact rs_sl | assumption | apply Rs.left)) hm (by first | assumption | rfl | omega | (rw [srt_length cPl_swo]; exact hm)) (by omega) (by omega) (by omega)) (fun g w h => h.perm (by ac_rfl)))) ?_; rintro _ _ ⟨rfl, rfl⟩; refine tv (o_pick_t rfl (by conv => lhs; whnf)) ?_; refine tlm ?_; refine tl_bool (d := 43) rfl (fun h => ?_) (fun h => ?_)
    · try simp only [lv1, lv2, lv3, lv4, lv5, lv6, Bool.not_true, Bool.not_false] at h
      refine tl_c rfl (o_call bd15 rfl (worksM_c)) ?_; rintro _ _ ⟨rfl, rfl⟩; refine tv (o_pick_t rfl (by conv => lhs; whnf)) ?_; refine tla ?_; refine nq ?_; refine tc_ret ?_; exact ⟨.bool true, F, res1 rfl rfl, Dr.sat (by repeat (first | with_reducible exact dr_refl | apply dr_keep | apply dr_drop)), rfl, rfl⟩
    · exfalso; simp at h
  · exfalso; simp at h
set_option maxRecDepth 20000 in
set_option maxHeartbeats 2000000 in
theorem MarksSets_f (F : SP) {a : Option Addr} {c n : Nat} {l : List Mk} (hr : Rs F a (mcs l)) (hm : l.length = n) (hn : n ≤ 5864062014640) {m : Mk} {z : Int} :
    Fn Try.prog 6 #[.slice a n c, .agg m.cells.toArray, .int .i64 z] (F) (fun r B => r = .bool true ∧ B = F) := by
  refine fn_enterW (args := [.slice a n c, .agg m.cells.toArray, .int .i64 z]) Try.func6 rfl Try.ntmps6 (by simp) ?_
  obtain ⟨X, er, hX⟩ : ∃ X er, setS l m = (X, er) := ⟨_, _, rfl⟩
  have hXl := set_le hX
  obtain ⟨Z, ez, hZ⟩ : ∃ X er, unsetS l m.id = (X, er) := ⟨_, _, rfl⟩
  have hZl := unset_le hZ
  refine sr ?_; refine tl_x rfl (o_box rfl rfl) ?_; rintro _ _ ⟨b4, rfl, rfl⟩; refine tla ?_; refine nq ?_; refine sr ?_; refine tlm ?_; refine tl_c rfl (o_call bd11 rfl (spare_c (l := l))) ?_; rintro _ _ ⟨a15, c15, rfl, hc15, rfl⟩; refine tla ?_; refine nq ?_; refine tc_seq ?_; refine sr ?_; refine tlm ?_; refine tlm ?_; refine tl_c rfl (o_call bd18 rfl (Check_c (l := l) (z := z) (hr := rs_room (by repeat (first | with_reducible exact rs_sl | assumption | apply Rs.left)) hm))) ?_; rintro _ _ ⟨rfl, rfl⟩; refine tlm ?_; refine tlm ?_; refine tl_c rfl (o_call bd20 rfl (rCheck_c (l := l) (z := z))) ?_; rintro _ _ ⟨rfl, rfl⟩; refine tv (o_nei rfl rfl) ?_; refine nq ?_; refine tc_cond rfl (fun h => ?_) (fun h => ?_)
  · exfalso; simp at h
  · try simp only [lv1, lv2, lv3, lv4, lv5, lv6, Bool.not_true, Bool.not_false] at h
    refine tc_skip ?_; refine q_then_n ?_; refine sr ?_; refine tlm ?_; refine tv (o_loadN (vs := (m).cells) a35 sz35 rfl (by repeat (first | with_reducible exact has_here | with_reducible exact has_pt | apply has_left)) (by show 3 ≤ 3; decide) rfl) ?_; refine tl_c rfl (o_call bd21 rfl (Setw (l := l) (m := m) hX (hr := rs_room (by repeat (first | with_reducible exact rs_sl | assumption | apply Rs.left)) hm))) ?_; rintro _ _ ⟨a26, c26, rfl, hc26, rfl⟩; refine tlm ?_; refine tv (o_extract rfl rfl) ?_; refine tv (o_extract rfl rfl) ?_; refine tla ?_; refine tla ?_; refine nq ?_; refine sr ?_; refine tlm ?_; refine tv (o_loadN (vs := (m).cells) a35 sz35 rfl (by repeat (first | with_reducible exact has_here | with_reducible exact has_pt | apply has_left)) (by show 3 ≤ 3; decide) rfl) ?_; refine tl_c rfl (o_call bd21 rfl (Setw (l := l) (m := m) hX (hr := rs_room (by repeat (first | with_reducible exact rs_sl | assumption | apply Rs.left)) hm))) ?_; rintro _ _ ⟨a32, c32, rfl, hc32, rfl⟩; refine tlm ?_; refine tv (o_extract rfl rfl) ?_; refine tv (o_extract rfl rfl) ?_; refine tla ?_; refine tla ?_; refine nq ?_; refine sr ?_; refine tlm ?_; refine tv (o_loadN (vs := (m).cells) a35 sz35 rfl (by repeat (first | with_reducible exact has_here | with_reducible exact has_pt | apply has_left)) (by show 3 ≤ 3; decide) rfl) ?_
    refine tl_c rfl (o_call bd22 rfl (rSetw (l := l) (m := m) hX)) ?_; rintro _ _ ⟨a38, c38, rfl, hc38, rfl⟩; refine tlm ?_; refine tv (o_extract rfl rfl) ?_; refine tv (o_extract rfl rfl) ?_; refine tla ?_; refine tla ?_; refine nq ?_; refine tc_seq ?_; refine sr ?_; refine tlm ?_; refine tlm ?_; refine tv (o_nei rfl rfl) ?_; refine tlm ?_; refine tl_bool (d := 44) rfl (fun h => ?_) (fun h => ?_)
    · exfalso; simp at h
    · try simp only [lv1, lv2, lv3, lv4, lv5, lv6, Bool.not_true, Bool.not_false] at h
      refine tlm ?_; refine tlm ?_; refine tlm ?_; refine tlm ?_; refine tlm ?_; refine tl_c rfl (o_call bd14 rfl (Fn.pre (twice_f (F * pt b4 (cl m.cells 35) * Sl 3 (.slice a15 (n + 40) c15) (n + 40) (mcs (l ++ rm40 40)) * Sl 3 (.slice a32 (X.length) c32) (X.length) (mcs (X)) * Sl 3 (.slice a38 (X.length) c38) (X.length) (mcs (X))) (ab := a32) (aw := a38) (ai := a15) (l := l) (X := X) (by repeat (first | with_reducible exact rs_sl | assumption | apply Rs.left)) (by repeat (first | with_reducible exact rs_sl | assumption | apply Rs.left)) (by repeat (first | with_reducible exact rs_sl | assumption | apply Rs.left)) (by repeat (first | with_reducible exact rs_sl | assumption | apply Rs.left)) hm (by first | assumption | rfl | omega | (rw [srt_length cPl_swo]; exact hm)) (by omega) (by omega) (by omega)) (fun g w h => h.perm (by ac_rfl)))) ?_; rintro _ _ ⟨rfl, rfl⟩; refine tv (o_not rfl) ?_; refine tv (o_pick_f rfl (by conv => lhs; whnf)) ?_; refine nq ?_; refine tc_cond rfl (fun h => ?_) (fun h => ?_)
      · exfalso; simp at h
      · try simp only [lv1, lv2, lv3, lv4, lv5, lv6, Bool.not_true, Bool.not_false] at h
        refine tc_skip ?_; refine q_then_n ?_; refine sr ?_; refine tlm ?_; refine tv (o_fieldAddr (o := 0) Try.underlying35 rfl rfl sz33 rfl) ?_; refine tv (by first | exact o_load p33 rfl (by repeat (first | with_reducible exact has_here | with_reducible exact has_pt | apply has_left)) rfl | exact o_loadC p33 rfl (by assumption)) ?_; refine tl_c rfl (o_call bd23 rfl (Unsetw (l := l) (id := m.id) hZ (hr := rs_room (by repeat (first | with_reducible exact rs_sl | assumption | apply Rs.left)) hm))) ?_; rintro _ _ ⟨a57, c57, rfl, hc57, rfl⟩; refine tlm ?_; refine tv (o_extract rfl rfl) ?_; refine tv (o_extract rfl rfl) ?_; refine tla ?_; refine tla ?_; refine nq ?_; refine sr ?_; refine tlm ?_; refine tv (o_fieldAddr (o := 0) Try.underlying35 rfl rfl sz33 rfl) ?_; refine tv (by first | exact o_load p33 rfl (by repeat (first | with_reducible exact has_here | with_reducible exact has_pt | apply has_left)) rfl | exact o_loadC p33 rfl (by assumption)) ?_; refine tl_c rfl (o_call bd23 rfl (Unsetw (l := l) (id := m.id) hZ (hr := rs_room (by repeat (first | with_reducible exact rs_sl | assumption | apply Rs.left)) hm))) ?_; rintro _ _ ⟨a64, c64, rfl, hc64, rfl⟩; refine tlm ?_; refine tv (o_extract rfl rfl) ?_; refine tv (o_extract rfl rfl) ?_
        refine tla ?_; refine nq ?_; refine sr ?_; refine tlm ?_; refine tv (o_fieldAddr (o := 0) Try.underlying35 rfl rfl sz33 rfl) ?_; refine tv (by first | exact o_load p33 rfl (by repeat (first | with_reducible exact has_here | with_reducible exact has_pt | apply has_left)) rfl | exact o_loadC p33 rfl (by assumption)) ?_; refine tl_c rfl (o_call bd24 rfl (rUnsetw (l := l) (id := m.id) hZ)) ?_; rintro _ _ ⟨a71, c71, rfl, hc71, rfl⟩; refine tlm ?_; refine tv (o_extract rfl rfl) ?_; refine tv (o_extract rfl rfl) ?_; refine tla ?_; refine tla ?_; refine nq ?_; refine sr ?_; refine tlm ?_; refine tlm ?_; refine tv (o_eqi rfl rfl) ?_; refine tlm ?_; refine tl_bool (d := 77) rfl (fun h => ?_) (fun h => ?_)
        · try simp only [lv1, lv2, lv3, lv4, lv5, lv6, Bool.not_true, Bool.not_false] at h
          refine tlm ?_; refine tlm ?_; refine tlm ?_; refine tlm ?_; refine tlm ?_; refine tl_c rfl (o_call bd14 rfl (Fn.pre (twice_f (F * pt b4 (cl m.cells 35) * Sl 3 (.slice a15 (n + 40) c15) (n + 40) (mcs (l ++ rm40 40)) * Sl 3 (.slice a32 (X.length) c32) (X.length) (mcs (X)) * Sl 3 (.slice a38 (X.length) c38) (X.length) (mcs (X)) * Sl 3 (.slice a64 (Z.length) c64) (Z.length) (mcs (Z)) * Sl 3 (.slice a71 (Z.length) c71) (Z.length) (mcs (Z))) (ab := a64) (aw := a71) (ai := a15) (l := l) (X := Z) (by repeat (first | with_reducible exact rs_sl | assumption | apply Rs.left)) (by repeat (first | with_reducible exact rs_sl | assumption | apply Rs.left)) (by repeat (first | with_reducible exact rs_sl | assumption | apply Rs.left)) (by repeat (first | with_reducible exact rs_sl | assumption | apply Rs.left)) hm (by first | assumption | rfl | omega | (rw [srt_length cPl_swo]; exact hm)) (by omega) (by omega) (by omega)) (fun g w h => h.perm (by ac_rfl)))) ?_; rintro _ _ ⟨rfl, rfl⟩; refine tv (o_pick_t rfl (by conv => lhs; whnf)) ?_; refine tlm ?_; refine tl_bool (d := 85) rfl (fun h => ?_) (fun h => ?_)
          · try simp only [lv1, lv2, lv3, lv4, lv5, lv6, Bool.not_true, Bool.not_false] at h
            refine tl_c rfl (o_call bd15 rfl (worksM_c)) ?_; rintro _ _ ⟨rfl, rfl⟩; refine tv (o_pick_t rfl (by conv => lhs; whnf)) ?_; refine tla ?_; refine nq ?_; refine tc_ret ?_; exact ⟨.bool true, F, res1 rfl rfl, Dr.sat (by repeat (first | with_reducible exact dr_refl | apply dr_keep | apply dr_drop)), rfl, rfl⟩
          · exfalso; simp at h
        · exfalso; simp at h
end Go.Vl

set_option linter.unusedVariables false
set_option linter.unusedSimpArgs false
namespace Go.Vl
open Go Go.Proofs
def smS (n : Int) : Nat := n.natAbs % 1099511627776
def rtE (e : Ed) : Ed := ⟨smS e.at_, smS e.out, smS e.inn⟩
def fwM (i : Nat) (m : Mk) : Mk := ⟨i, smS m.at_, m.gr % 2⟩
def fwL (l : List Mk) : List Mk := l.mapIdx fwM
/-- Marks that may be, in order, none far. -/
structure Few (b : Int) (L : List Mk) : Prop where
  len : L.length ≤ 32
  at_ : ∀ i (h : i < L.length), L[i].id = i ∧ 0 ≤ L[i].at_ ∧ L[i].at_ < b ∧ L[i].gr < 2
theorem Few.may {b : Int} {L : List Mk} (h : Few b L) : mayS L = 0 := by
  refine may_ok h.len (List.all_eq_true.2 fun x hx => ?_) ?_
  · obtain ⟨i, hi, rfl⟩ := List.mem_iff_getElem.1 hx
    obtain ⟨_, h1, _, h2⟩ := h.at_ i hi
    unfold okM; rw [decide_eq_true h1, decide_eq_true (by omega)]; rfl
  · rw [List.Nodup, List.pairwise_iff_getElem]
    intro i j hi hj hij
    rw [List.length_map] at hi hj
    rw [List.getElem_map, List.getElem_map, (h.at_ i hi).1, (h.at_ j hj).1]
    omega
theorem Few.srt {b : Int} {L : List Mk} (h : Few b L) : srt (ltc cId) L = L := by
  refine (srt_of cId_swo ⟨?_, fun _ => rfl⟩).symm
  unfold Sd
  rw [List.pairwise_iff_getElem]
  intro i j hi hj hij
  rw [cId_neg, (h.at_ i hi).1, (h.at_ j hj).1]
  simp; omega
theorem Few.mono {b c : Int} {L : List Mk} (h : Few b L) (hc : b ≤ c) : Few c L := ⟨h.len, fun i hi => by have := h.at_ i hi; exact ⟨this.1, this.2.1, by omega, this.2.2.2⟩⟩
structure Near (b : Int) (e : Ed) : Prop where
  a : 0 ≤ e.at_ ∧ e.at_ ≤ b
  o : 0 ≤ e.out ∧ e.out ≤ b
  i : 0 ≤ e.inn ∧ e.inn ≤ b
/-- Where a mark goes, told by cases. -/
def Went (e : Ed) (x y : Mk) : Prop := y.id = x.id ∧ y.gr = x.gr ∧ ((x.at_ < e.at_ ∧ y.at_ = x.at_) ∨ (e.at_ ≤ x.at_ ∧ e.at_ + e.out < x.at_ ∧ y.at_ = x.at_ - e.out + e.inn) ∨ (e.at_ ≤ x.at_ ∧ x.at_ ≤ e.at_ + e.out ∧ x.gr = 1 ∧ y.at_ = e.at_ + e.inn) ∨ (e.at_ ≤ x.at_ ∧ x.at_ ≤ e.at_ + e.out ∧ x.gr ≠ 1 ∧ y.at_ = e.at_))
theorem Few.map {b c : Int} {L : List Mk} {e : Ed} (h : Few b L) (hw : ∀ i (hi : i < L.length), Went e L[i] (mvM e L[i])) (he : Near 1000000000000000000 e) (hc : ∀ x y : Mk, 0 ≤ x.at_ → x.at_ < b → Went e x y → y.at_ < c) : Few c (L.map (mvM e)) := by
  refine ⟨by rw [List.length_map]; exact h.len, fun i hi => ?_⟩
  rw [List.length_map] at hi
  rw [List.getElem_map]
  obtain ⟨h1, h2, h3, h4⟩ := h.at_ i hi
  obtain ⟨w1, w2, w3⟩ := hw i hi
  obtain ⟨⟨a1, a2⟩, ⟨o1, o2⟩, i1, i2⟩ := he
  exact ⟨by rw [w1, h1], by omega, hc _ _ h2 h3 (hw i hi), by omega⟩
theorem Near.w {e : Ed} (h : Near 1000000000000000000 e) : EdW e := ⟨by have := h.a; omega, by have := h.o; omega, by have := h.i; omega⟩
theorem Near.mono {b c : Int} {e : Ed} (h : Near b e) (hc : b ≤ c) : Near c e := ⟨by have := h.a; omega, by have := h.o; omega, by have := h.i; omega⟩
attribute [local irreducible] Sl pt ro SlB
end Go.Vl

set_option linter.unusedVariables false
set_option linter.unusedSimpArgs false
namespace Go.Vl
open Go Go.Proofs
def PMkG (A : SP) (cs : List Value) (l : List Mk) : Prop := ∃ a c, cs = [.slice a l.length c] ∧ l.length ≤ c ∧ l.length * 24 ≤ reachBytes ∧ Rs A a (mcs l) ∧ ∀ x ∈ l, MkW x
end Go.Vl

set_option linter.unusedVariables false
set_option linter.unusedSimpArgs false
namespace Go.Vl
open Go Go.Proofs
theorem o_b2sM {P : Program} {n : Nat} {ρ : Env} {A : SP} {dst : Option Tmp} {ty : TypeId} {pos : String} {after : Array Edge} {gd : Option (Nat × Bool)} {s t e : TypeId} {x : Operand} {a : Option Addr} {m c : Nat} {xs : List Nat} (hs : P.underlying s = some (.slice e)) (he : P.underlying e = some (.int .u8)) (ht : P.underlying t = some .string)
    (hx : ev n ρ x = .slice a m c) (hr : Rs A a (bys xs)) (hm : xs.length = m) (h0 : 0 < m ∨ a = none) : OpV P n ρ A ⟨dst, .convert s t x, ty, pos, after, gd⟩ (.string (sob xs)) := by
  rcases Nat.eq_zero_or_pos m with h1 | h1
  · rcases h0 with h0 | rfl
    · omega
    subst h1
    have hxs : xs = [] := List.length_eq_zero_iff.1 hm
    subst hxs
    refine opv_of fun w => ?_
    simp only [execOp, hx]
    rw [run_bind (run_convert_bytes_nil (w := w) s e hs he 0 c t ht)]
    rfl
  · exact o_b2s hs he ht hx hr hm h1
attribute [local irreducible] Sl pt ro SlB
set_option maxRecDepth 20000 in
set_option maxHeartbeats 2000000 in
theorem rPack_c {A : SP} {a : Option Addr} {c n : Nat} {l : List Mk} (hr : Rs A a (mcs l) := by repeat (first | assumption | with_reducible exact rs_sl | with_reducible exact rs_pt0 | exact rs_none | apply Rs.left)) (hm : l.length = n := by first | assumption | rfl) (hW : ∀ x ∈ l, MkW x := by assumption) (hs : n ≤ 5864062014800 := by omega) :
    Fn Try.prog 28 #[.slice a n c] (A) (fun r B => r = .tuple #[.string (packS l).1, .int .i64 (packS l).2] ∧ A = B) := by
  refine fn_enterW (args := [.slice a n c]) Try.func28 rfl Try.ntmps28 (by simp) ?_; refine sr ?_; refine tla ?_; refine tla ?_; refine nq ?_; refine sr ?_; refine tlm ?_; refine tl_c rfl (o_call bd35 rfl (rMay_c (l := l))) ?_; rintro _ _ ⟨rfl, rfl⟩; refine tla ?_; refine nq ?_; refine tc_seq ?_; refine sr ?_; refine tlm ?_; refine tv (o_nei rfl rfl) ?_; refine nq ?_; refine tc_cond rfl (fun h => ?_) (fun h => ?_)
  · have hne : mayS l ≠ 0 := by first | omega | (simp at h; omega)
    refine sr ?_; refine tlm ?_; refine tla ?_; refine tla ?_; refine nq ?_; refine tc_ret ?_; refine q_then_r ?_
    have e0 : packS l = (.empty, mayS l) := by unfold packS; rw [if_pos hne]
    rw [e0]
    exact ⟨.tuple #[.string .empty, .int .i64 (mayS l)], A, res2 rfl rfl rfl, Dr.sat (by repeat (first | with_reducible exact dr_refl | apply dr_keep | apply dr_drop)), rfl, rfl⟩
  · have hne : mayS l = 0 := by first | omega | (simp at h; omega)
    have h32 := (may_zero hne).1
    have hok := (may_zero hne).2.1
    refine tc_skip ?_; refine q_then_n ?_; refine sr ?_; refine tlm ?_; refine tl_c rfl (o_call bd38 rfl (sorted_c (l := l) (pl := false))) ?_; rintro _ _ ⟨a13, c13, rfl, hc13, rfl⟩; refine tla ?_; refine nq ?_; refine tc_seq ?_
    obtain ⟨S, hS⟩ : ∃ S, srt (ltc cId) l = S := ⟨_, rfl⟩
    refine tc_eq (show _ = A * Sl 3 (.slice a13 n c13) n (mcs S) by rw [← hS]; try rfl) ?_
    have hsl : S.length = n := by rw [← hS, srt_length cId_swo]; assumption
    refine tc_reg ?_; refine tla ?_; refine nq ?_; refine tc_seq ?_; refine sr ?_; refine tla ?_; refine nq ?_; refine tc_block ?_; refine tc_pre (A' := A * Sl 3 (.slice a13 n c13) n (mcs S) * Sl 1 (.slice none 0 0) 0 (bys [])) (fun _ _ h => sl_nil h) ?_; refine tc_loop (fun kk ρ BB => ∃ (i : Nat) (ab : Option Addr) (cb : Nat), (i ≤ n) ∧ (0 < i ∨ ab = none) ∧ kk = n - i ∧ ρ 5 = .slice ab (16 * i) cb ∧ ρ 6 = .int .i64 (i : Nat) ∧ ρ 0 = .slice a13 n c13 ∧ Dr BB (A * Sl 3 (.slice a13 n c13) n (mcs S) * Sl 1 (.slice ab (16 * i) cb) (16 * i) (bys (pkS (S.take i))))) (m := n - (0)) ?_ ?_
    · exact ⟨0, none, 0, by omega, .inr rfl, rfl, rfl, rfl, rfl, (by repeat (first | with_reducible exact dr_refl | apply dr_keep | apply dr_drop))⟩
    · intro k ρ B hI
      obtain ⟨i, ab, cb, hp0, hp1, hkk1, hE5, hE6, hE0, hBA⟩ := hI
      refine tc_pre hBA.sat ?_
      clear hBA
      refine tc_env (d := 5) hE5 ?_; refine tc_env (d := 6) hE6 ?_; refine tc_env (d := 0) hE0 ?_
      clear hE5 hE6 hE0
      refine tc_seq ?_; refine sr ?_; refine tlm ?_; refine tlm ?_; refine tv (o_len Try.underlying22 rfl) ?_; refine tv (o_lss rfl rfl) ?_; refine nq ?_; refine tc_cond rfl (fun h => ?_) (fun h => ?_)
      · have hi : i < S.length := by first | omega | (simp at h; omega)
        obtain ⟨x, hx⟩ : ∃ x, S[i] = x := ⟨_, rfl⟩
        have hxm : x ∈ l := (srt_mem cId_swo).1 (by rw [hS]; exact hx ▸ List.getElem_mem hi)
        have hxW := hW x hxm
        have hxi := hxW.id
        have hxg := hxW.gr
        have hxa := hxW.at_
        have hxo : okM x = true := List.all_eq_true.1 hok x hxm
        have hx0 : 0 ≤ x.at_ := by unfold okM at hxo; simp only [Bool.and_eq_true, decide_eq_true_eq] at hxo; exact hxo.1
        have hxt : x.at_ = ((x.at_.toNat : Nat) : Int) := (Int.toNat_of_nonneg hx0).symm
        have htk : S.take (i + 1) = S.take i ++ [x] := by rw [List.take_succ_eq_append_getElem hi, hx]
        have hpl : (pkS (S.take i)).length = 16 * i := by rw [pkS_len, List.length_take]; omega
        have hpk : pkS (S.take i) ++ le 4 x.id ++ le 8 x.at_.toNat ++ [x.gr, 0, 0, 0] = pkS (S.take (i + 1)) := by rw [htk, pkS_snoc]; unfold pkM; simp only [List.append_assoc]
        refine tc_skip ?_; refine q_then_n ?_; refine tc_seq ?_; refine tc_block ?_; refine sr ?_; refine tlm ?_; refine tlm ?_; refine tlm ?_; refine tv (o_ixP (a := a13) Try.underlying22 sz35 rfl rfl (by omega) (nn_rs (by repeat (first | with_reducible exact rs_sl | assumption | apply Rs.left)) (fun _ => by rw [mcs_len]; omega))) ?_; refine tv (o_faP (a := a13) (m := 0) (o := 0) Try.underlying35 rfl rfl sz33 rfl (nn_rs (by repeat (first | with_reducible exact rs_sl | assumption | apply Rs.left)) (fun _ => by rw [mcs_len]; omega))) ?_; refine tv (o_ldP (a := a13) p33 rfl (by repeat (first | with_reducible exact rs_sl | assumption | apply Rs.left)) (by rw [mcs_f0 (by omega)])) ?_; refine tl_env (d := 25) (v := .int .u32 (x.id : Nat)) (by rw [← hx]; rfl) ?_; refine tv (by first | exact o_conv64 Try.underlying33 Try.underlying66 rfl | exact o_conv Try.underlying33 Try.underlying66 rfl) ?_; refine tl_env (d := 26) (v := .int .u64 ((x.id : Nat) : Int)) (congrArg (fun z : Nat => Value.int .u64 (z : Int)) (Nat.mod_eq_of_lt (by omega))) ?_; refine tl_c rfl (o_call bd50 rfl (Little_c (v := x.id) (n := 4))) ?_; rintro _ _ ⟨a27, c27, rfl, hc27, rfl⟩; refine tl_c rfl (o_call bd49 rfl (Two_c (xs := pkS (S.take i)) (ys := le 4 x.id) (h1 := (by repeat (first | with_reducible exact rs_sl | assumption | apply Rs.left))) (h2 := (by repeat (first | with_reducible exact rs_sl | assumption | apply Rs.left))) (e1 := hpl) (e2 := le_length 4 _))) ?_
        rintro _ _ ⟨a28, c28, rfl, hc28, rfl⟩; refine tla ?_; refine nq ?_; refine sr ?_; refine tlm ?_; refine tlm ?_; refine tlm ?_; refine tv (o_ixP (a := a13) Try.underlying22 sz35 rfl rfl (by omega) (nn_rs (by repeat (first | with_reducible exact rs_sl | assumption | apply Rs.left)) (fun _ => by rw [mcs_len]; omega))) ?_; refine tv (o_faP (a := a13) (m := 0) (o := 1) Try.underlying35 rfl rfl sz3 rfl (nn_rs (by repeat (first | with_reducible exact rs_sl | assumption | apply Rs.left)) (fun _ => by rw [mcs_len]; omega))) ?_; refine tv (o_ldP (a := a13) p3 rfl (by repeat (first | with_reducible exact rs_sl | assumption | apply Rs.left)) (by rw [mcs_f1 (by omega)])) ?_; refine tl_env (d := 34) (v := .int .i64 x.at_) (by rw [← hx]; rfl) ?_; refine tv (by first | exact o_conv64 Try.underlying3 Try.underlying66 rfl | exact o_conv Try.underlying3 Try.underlying66 rfl) ?_; refine tl_env (d := 35) (v := .int .u64 ((x.at_.toNat : Nat) : Int)) (by show Value.int .u64 (IntKind.u64.wrap x.at_) = _; rw [hxt, wrap_u64]; congr 1; omega) ?_; refine tl_c rfl (o_call bd50 rfl (Little_c (v := x.at_.toNat) (n := 8))) ?_; rintro _ _ ⟨a36, c36, rfl, hc36, rfl⟩; refine tl_c rfl (o_call bd49 rfl (Two_c (xs := pkS (S.take i) ++ le 4 x.id) (ys := le 8 x.at_.toNat) (h1 := (by repeat (first | with_reducible exact rs_sl | assumption | apply Rs.left))) (h2 := (by repeat (first | with_reducible exact rs_sl | assumption | apply Rs.left))) (e1 := by rw [List.length_append, hpl, le_length]) (e2 := le_length 8 _))) ?_
        rintro _ _ ⟨a37, c37, rfl, hc37, rfl⟩; refine tla ?_; refine nq ?_; refine tc_reg ?_; refine tlm ?_; refine tlm ?_; refine tlm ?_; refine tv (o_ixP (a := a13) Try.underlying22 sz35 rfl rfl (by omega) (nn_rs (by repeat (first | with_reducible exact rs_sl | assumption | apply Rs.left)) (fun _ => by rw [mcs_len]; omega))) ?_; refine tv (o_faP (a := a13) (m := 0) (o := 2) Try.underlying35 rfl rfl sz5 rfl (nn_rs (by repeat (first | with_reducible exact rs_sl | assumption | apply Rs.left)) (fun _ => by rw [mcs_len]; omega))) ?_; refine tv (o_ldP (a := a13) p5 rfl (by repeat (first | with_reducible exact rs_sl | assumption | apply Rs.left)) (by rw [mcs_f2 (by omega)])) ?_; refine tl_env (d := 43) (v := .int .u8 (x.gr : Nat)) (by rw [← hx]; rfl) ?_; refine tl_x rfl (o_buildSliceL (k := 1) (vs := bys [x.gr, 0, 0, 0]) (l := bys [x.gr, 0, 0, 0]) Try.underlying62 sz5 z5 rfl rfl (by decide) (by decide) (by intro v hv; simp only [bys, b8, List.map_cons, List.map_nil, List.mem_cons, List.not_mem_nil, or_false] at hv; rcases hv with rfl | rfl | rfl | rfl <;> rfl) rfl) ?_; rintro _ _ ⟨b44, rfl, rfl⟩; refine tl_c rfl (o_call bd49 rfl (Two_c (xs := pkS (S.take i) ++ le 4 x.id ++ le 8 x.at_.toNat) (ys := [x.gr, 0, 0, 0]) (m2 := 4) (h1 := (by repeat (first | with_reducible exact rs_sl | assumption | apply Rs.left))) (h2 := rs_pt rfl) (e1 := by rw [List.length_append, List.length_append, hpl, le_length, le_length]) (e2 := rfl))) ?_
        rintro _ _ ⟨a45, c45, rfl, hc45, rfl⟩
        rw [hpk, show 16 * i + 4 + 8 + 4 = 16 * (i + 1) by omega]
        refine tla ?_; refine tl_nil ?_; refine q_block_n (q_then_n ?_); refine tc_reg ?_; refine tlm ?_; refine tv (by first | exact o_addI rfl rfl (by omega) | exact o_add rfl rfl) ?_; refine tla ?_; refine nq ?_; exact ⟨_, by omega, i + 1, _, _, by omega, .inl (by omega), rfl, rfl, rfl, rfl, (by repeat (first | with_reducible exact dr_refl | apply dr_keep | apply dr_drop))⟩
      · obtain rfl : i = S.length := by first | omega | (simp at h; omega)
        have hfin : Rs (A * Sl 3 (.slice a13 n c13) n (mcs S) * Sl 1 (.slice ab (16 * S.length) cb) (16 * S.length) (bys (pkS (S.take S.length)))) ab (bys (pkS S)) := by rw [List.take_length]; exact rs_sl
        have hfin0 : 0 < 16 * S.length ∨ ab = none := by rcases hp1 with h1 | h1; exact .inl (by omega); exact .inr h1
        refine tc_exit ?_; refine q_then_e (q_then_e (q_block_x (q_then_n ?_))); refine sr ?_; refine tlm ?_; refine tv (o_b2sM (xs := pkS S) Try.underlying62 Try.underlying5 Try.underlying9 rfl (by repeat (first | exact hfin | apply Rs.left)) (by rw [pkS_len]) (by first | exact hfin0 | omega)) ?_; refine tla ?_; refine tla ?_; refine nq ?_; refine tc_ret ?_
        have e0 : packS l = (sob (pkS S), 0) := by unfold packS; rw [if_neg (by simpa using hne), hS]
        rw [e0]
        exact ⟨.tuple #[.string (sob (pkS S)), .int .i64 0], A, res2 rfl rfl rfl, Dr.sat (by repeat (first | with_reducible exact dr_refl | apply dr_keep | apply dr_drop)), rfl, rfl⟩
end Go.Vl

set_option linter.unusedVariables false
set_option linter.unusedSimpArgs false
namespace Go.Vl
open Go Go.Proofs
attribute [local irreducible] Sl pt ro SlB
set_option maxRecDepth 20000 in
set_option maxHeartbeats 2000000 in
theorem number19_c {A : SP} {s : ByteArray} (hs : s.size ≤ 8 := by omega) :
    Fn Try.prog 54 #[.string s] (A) (fun r B => r = .int .u64 (nm (sbys s) : Nat) ∧ A = B) := by
  refine fn_enterW (args := [.string s]) Try.func54 rfl Try.ntmps54 (by simp) ?_
  have hxl := sbys_len s
  refine sr ?_; refine tla ?_; refine nq ?_; refine sr ?_; refine tla ?_; refine nq ?_; refine tc_seq ?_; refine sr ?_; refine tlm ?_; refine tv (o_lenS Try.underlying9 rfl) ?_; refine tv (o_subI rfl rfl (by omega)) ?_; refine tla ?_; refine nq ?_; refine tc_block ?_; refine tc_loop (fun kk ρ BB => ∃ (k : Nat), (k ≤ s.size) ∧ kk = k ∧ ρ 3 = .int .u64 (nm ((sbys s).drop k) : Nat) ∧ ρ 4 = .int .i64 ((k : Int) - 1) ∧ ρ 0 = .string s ∧ BB = A) (m := (s.size)) ?_ ?_
  · exact ⟨s.size, by omega, rfl, by show Value.int .u64 0 = _; rw [List.drop_of_length_le (by omega)]; rfl, rfl, rfl, rfl⟩
  · intro k ρ B hI
    obtain ⟨k, hp0, hkk1, hE3, hE4, hE0, hBA⟩ := hI
    obtain rfl := hBA.symm
    refine tc_env (d := 3) hE3 ?_; refine tc_env (d := 4) hE4 ?_; refine tc_env (d := 0) hE0 ?_
    clear hE3 hE4 hE0
    refine tc_seq ?_; refine sr ?_; refine tlm ?_; refine tv (o_geq rfl rfl) ?_; refine nq ?_; refine tc_cond rfl (fun h => ?_) (fun h => ?_)
    · obtain ⟨j, rfl⟩ : ∃ j, k = j + 1 := ⟨k - 1, by first | omega | (simp at h; omega)⟩
      have hi : j < s.size := by omega
      obtain ⟨cc, h1, h2⟩ := sbys_at hi
      have hbb : ∀ x ∈ (sbys s).drop (j + 1), x < 256 := fun x hx => by obtain ⟨b, _, rfl⟩ := List.mem_map.1 (List.mem_of_mem_drop hx); exact b.toNat_lt
      have hlt := nm_lt _ hbb
      have hp7 : 256 ^ ((sbys s).drop (j + 1)).length ≤ 256 ^ 7 := Nat.pow_le_pow_right (by decide) (by rw [List.length_drop]; omega)
      have hcc := cc.toNat_lt
      have hnx : nm ((sbys s).drop j) = nm ((sbys s).drop (j + 1)) * 256 + cc.toNat := by rw [List.drop_eq_getElem_cons (show j < (sbys s).length by omega)]; rw [List.getElem?_eq_getElem (show j < (sbys s).length by omega)] at h2; rw [Option.some.inj h2]; show _ + 256 * _ = _; omega
      have hV : nm ((sbys s).drop (j + 1)) < 72057594037927936 := by omega
      refine tc_skip ?_; refine q_then_n ?_; refine tc_seq ?_; refine tc_block ?_; refine tc_reg ?_; refine tlm ?_; refine tv (o_mul rfl rfl) ?_; refine tl_env (d := 13) (v := .int .u64 ((nm ((sbys s).drop (j + 1)) * 256 : Nat) : Int)) (by show Value.int .u64 (IntKind.u64.wrap ((nm ((sbys s).drop (j + 1)) : Nat) * 256)) = _; rw [show ((nm ((sbys s).drop (j + 1)) : Nat) : Int) * 256 = ((nm ((sbys s).drop (j + 1)) * 256 : Nat) : Int) by omega, wrap_u64]; congr 1; omega) ?_; refine tlm ?_; refine tlm ?_; refine tl_env (d := 15) (v := .int .i64 (j : Nat)) (by show Value.int .i64 _ = _; congr 1; omega) ?_; refine tv (o_indexS Try.underlying9 rfl rfl (by omega) h1) ?_; refine tl_env (d := 16) (v := .int .u8 ((cc.toNat : Nat) : Int)) (rfl) ?_; refine tv (by first | exact o_conv64 Try.underlying5 Try.underlying66 rfl | exact o_conv Try.underlying5 Try.underlying66 rfl) ?_; refine tl_env (d := 17) (v := .int .u64 ((cc.toNat : Nat) : Int)) (congrArg (fun z : Nat => Value.int .u64 (z : Int)) (Nat.mod_eq_of_lt (by omega))) ?_; refine tv (o_add rfl rfl) ?_; refine tl_env (d := 18) (v := .int .u64 ((nm ((sbys s).drop (j + 1)) * 256 + cc.toNat : Nat) : Int)) (by first | rfl | (show Value.int .u64 (IntKind.u64.wrap _) = _; rw [show ((nm ((sbys s).drop (j + 1)) * 256 : Nat) : Int) + ((cc.toNat : Nat) : Int) = ((nm ((sbys s).drop (j + 1)) * 256 + cc.toNat : Nat) : Int) by omega, wrap_u64]; congr 1; omega)) ?_
      refine tla ?_; refine tl_nil ?_; refine q_block_n (q_then_n ?_); refine tc_reg ?_; refine tlm ?_; refine tv (o_subI rfl rfl (by omega)) ?_; refine tla ?_; refine nq ?_; exact ⟨_, by omega, j, by omega, rfl, by show Value.int .u64 ((nm ((sbys s).drop (j + 1)) * 256 + cc.toNat : Nat) : Int) = _; rw [hnx], by show Value.int .i64 (((j + 1 : Nat) : Int) - 1 - 1) = _; congr 1; omega, rfl, rfl⟩
    · try simp only [lv1, lv2, lv3, lv4, lv5, lv6, Bool.not_true, Bool.not_false] at h
      refine tc_exit ?_; refine q_then_e (q_then_e (q_block_x (q_then_n ?_))); refine sr ?_; refine tlm ?_; refine tla ?_; refine nq ?_; refine tc_ret ?_
      obtain rfl : k = 0 := by first | omega | (simp at h; omega)
      exact ⟨.int .u64 (nm (sbys s) : Nat), A, res1 rfl rfl, Dr.sat (by repeat (first | with_reducible exact dr_refl | apply dr_keep | apply dr_drop)), rfl, rfl⟩
end Go.Vl

set_option linter.unusedVariables false
set_option linter.unusedSimpArgs false
namespace Go.Vl
open Go Go.Proofs
section
variable {P : Program} {n : Nat} {ρ : Env} {A : SP} {dst : Option Tmp} {ty : TypeId} {pos : String} {after : Array Edge} {gd : Option (Nat × Bool)}
theorem o_nestr {t t' : TypeId} {x y : Operand} {a b : ByteArray} (hx : ev n ρ x = .string a) (hy : ev n ρ y = .string b) :
    OpV P n ρ A ⟨dst, .binOp .neq t x y t', ty, pos, after, gd⟩ (.bool (decide (a.toList ≠ b.toList))) :=
  opv_of fun w => by
  simp only [execOp, hx, hy]
  rw [run_bind (w' := w) (a := .bool (decide (a.toList ≠ b.toList)))]
  · rfl
  rw [run_bind (w' := w) (a := ())]
  · by_cases h : a.toList = b.toList <;> simp [binOp, Op.stringOp, pure, h]
  · rfl
end
theorem sbys_extract (s : ByteArray) (l h : Nat) : sbys (s.extract l h) = ((sbys s).take h).drop l := by
  unfold sbys
  rw [show (s.extract l h).data = s.data.extract l h by simp]
  rw [Array.toList_extract, List.extract_eq_take_drop, List.map_take, List.map_drop, List.drop_take]
/-- The mark that sixteen bytes tell. -/
def mkA (X : List Nat) : Mk := ⟨nm (X.take 4), (nm ((X.drop 4).take 8) : Nat), X.getD 12 0⟩
def farA (X : List Nat) : Bool := decide (9223372036854775807 < nm ((X.drop 4).take 8))
def unL (X : List Nat) (n : Nat) : List Mk := (List.range n).map fun k => mkA (X.drop (16 * k))
def unpS (s : ByteArray) : List Mk × Int := if s.size % 16 ≠ 0 ∨ 512 < s.size then ([], 190) else if (List.range (s.size / 16)).any (fun k => farA ((sbys s).drop (16 * k))) then ([], 190) else if (packS (unL (sbys s) (s.size / 16))).2 = 0 ∧ (packS (unL (sbys s) (s.size / 16))).1.toList = s.toList then (unL (sbys s) (s.size / 16), 0) else ([], 190)
theorem unL_succ (X : List Nat) (k : Nat) : unL X (k + 1) = unL X k ++ [mkA (X.drop (16 * k))] := by unfold unL; rw [List.range_succ, List.map_append]; rfl
theorem unL_len (X : List Nat) (k : Nat) : (unL X k).length = k := by unfold unL; simp
theorem nm_lt_of {s : ByteArray} {Y : List Nat} (h : ∀ x ∈ Y, x ∈ sbys s) {k : Nat} (hl : Y.length ≤ k) : nm Y < 256 ^ k := by
  have hb : ∀ x ∈ Y, x < 256 := fun x hx => by obtain ⟨b, _, rfl⟩ := List.mem_map.1 (h x hx); exact b.toNat_lt
  exact Nat.lt_of_lt_of_le (nm_lt _ hb) (Nat.pow_le_pow_right (by decide) hl)
theorem sbys_b {s : ByteArray} {i : Nat} : (sbys s).getD i 0 < 256 := by
  rw [List.getD_eq_getElem?_getD]
  cases h : (sbys s)[i]? with
  | none => decide
  | some v =>
    obtain ⟨b, _, rfl⟩ := List.mem_map.1 (List.mem_of_getElem? h)
    exact b.toNat_lt
theorem unL_w {s : ByteArray} {n : Nat} (h : ∀ k, k < n → farA ((sbys s).drop (16 * k)) = false) : ∀ x ∈ unL (sbys s) n, MkW x := fun x hx => by
  obtain ⟨k, hk, rfl⟩ := List.mem_map.1 hx
  have h1 := of_decide_eq_false (h k (List.mem_range.1 hk))
  have h4 : nm (((sbys s).drop (16 * k)).take 4) < 256 ^ 4 := nm_lt_of (s := s) (fun x hx => List.mem_of_mem_drop (List.mem_of_mem_take hx)) (List.length_take_le _ _)
  refine ⟨by show nm _ < _; omega, ⟨by show _ ≤ ((nm _ : Nat) : Int); omega, by show ((nm _ : Nat) : Int) ≤ _; omega⟩, ?_⟩
  show ((sbys s).drop (16 * k)).getD 12 0 < 256
  rw [List.getD_eq_getElem?_getD, List.getElem?_drop, ← List.getD_eq_getElem?_getD]
  exact sbys_b
attribute [local irreducible] Sl pt ro SlB
set_option maxRecDepth 20000 in
set_option maxHeartbeats 2000000 in
theorem rUnpack_c {A : SP} {s : ByteArray} :
    Fn Try.prog 31 #[.string s] (A) (fun r B => ∃ a2 c2, r = .tuple #[.slice a2 (unpS s).1.length c2, .int .i64 (unpS s).2] ∧ (unpS s).1.length ≤ c2 ∧ B = A * Sl 3 (.slice a2 (unpS s).1.length c2) (unpS s).1.length (mcs (unpS s).1)) := by
  refine fn_enterW (args := [.string s]) Try.func31 rfl Try.ntmps31 (by simp) ?_
  have hxl := sbys_len s
  refine sr ?_; refine tla ?_; refine tla ?_; refine nq ?_; refine tc_seq ?_; refine sr ?_; refine tlm ?_; refine tv (o_lenS Try.underlying9 rfl) ?_; refine tv (o_remN (b := 16) rfl rfl (by decide)) ?_; refine tv (o_nei rfl rfl) ?_; refine tlm ?_; refine tl_bool (d := 13) rfl (fun h => ?_) (fun h => ?_)
  · have g13 : s.size % 16 ≠ 0 := by first | omega | (simp at h; omega)
    refine tk ?_; refine tk ?_; refine tk ?_; refine tv (o_pick_t rfl (by conv => lhs; whnf)) ?_; refine nq ?_; refine tc_cond_t rfl ?_; refine sr ?_; refine tla ?_; refine tla ?_; refine nq ?_; refine tc_ret ?_; refine q_then_r ?_
    have e0 : unpS s = ([], 190) := by unfold unpS; rw [if_pos (by omega)]
    rw [e0]
    exact ⟨.tuple #[.slice none 0 0, .int .i64 (190)], A * Sl 3 (.slice none 0 0) 0 [], res2 rfl rfl rfl, fun _ _ h => sl_nil (Dr.sat (by repeat (first | with_reducible exact dr_refl | apply dr_keep | apply dr_drop)) _ _ h), none, 0, rfl, Nat.le_refl _, rfl⟩
  · have g13 : s.size % 16 = 0 := by first | omega | (simp at h; omega)
    refine tlm ?_; refine tv (o_lenS Try.underlying9 rfl) ?_; refine tv (o_gtr rfl rfl) ?_; refine tv (o_pick_f rfl (by conv => lhs; whnf)) ?_; refine nq ?_; refine tc_cond rfl (fun h => ?_) (fun h => ?_)
    · have g17 : 512 < s.size := by first | omega | (simp at h; omega)
      refine sr ?_; refine tla ?_; refine tla ?_; refine nq ?_; refine tc_ret ?_; refine q_then_r ?_
      have e0 : unpS s = ([], 190) := by unfold unpS; rw [if_pos (by omega)]
      rw [e0]
      exact ⟨.tuple #[.slice none 0 0, .int .i64 (190)], A * Sl 3 (.slice none 0 0) 0 [], res2 rfl rfl rfl, fun _ _ h => sl_nil (Dr.sat (by repeat (first | with_reducible exact dr_refl | apply dr_keep | apply dr_drop)) _ _ h), none, 0, rfl, Nat.le_refl _, rfl⟩
    · have g17 : s.size ≤ 512 := by first | omega | (simp at h; omega)
      obtain ⟨M, hM⟩ : ∃ M, s.size / 16 = M := ⟨_, rfl⟩
      have hsz : s.size = 16 * M := by omega
      refine tc_skip ?_; refine q_then_n ?_; refine sr ?_; refine tla ?_; refine nq ?_; refine tc_seq ?_; refine sr ?_; refine tla ?_; refine nq ?_; refine tc_block ?_; refine tc_pre (A' := A * Sl 3 (.slice none 0 0) 0 (mcs (unL (sbys s) 0))) (fun _ _ h => sl_nil (Dr.sat (by repeat (first | with_reducible exact dr_refl | apply dr_keep | apply dr_drop)) _ _ h)) ?_; refine tc_loop (fun kk ρ BB => ∃ (k : Nat) (a4 : Option Addr) (c4 : Nat), (k ≤ M ∧ k ≤ c4) ∧ (∀ j, j < k → farA ((sbys s).drop (16 * j)) = false) ∧ kk = M - k ∧ ρ 4 = .slice a4 k c4 ∧ ρ 5 = .int .i64 ((16 * k : Nat) : Int) ∧ ρ 0 = .string s ∧ Dr BB (A * Sl 3 (.slice a4 k c4) k (mcs (unL (sbys s) k)))) (m := M - (0)) ?_ ?_
      · exact ⟨0, none, 0, by omega, by intro j hj; omega, rfl, rfl, rfl, rfl, (by repeat (first | with_reducible exact dr_refl | apply dr_keep | apply dr_drop))⟩
      · intro k ρ B hI
        obtain ⟨k, a4, c4, hp0, hp1, hkk1, hE4, hE5, hE0, hBA⟩ := hI
        refine tc_pre hBA.sat ?_
        clear hBA
        refine tc_env (d := 4) hE4 ?_; refine tc_env (d := 5) hE5 ?_; refine tc_env (d := 0) hE0 ?_
        clear hE4 hE5 hE0
        refine tc_seq ?_; refine sr ?_; refine tlm ?_; refine tlm ?_; refine tv (o_lenS Try.underlying9 rfl) ?_; refine tv (o_lss rfl rfl) ?_; refine nq ?_; refine tc_cond rfl (fun h => ?_) (fun h => ?_)
        · obtain ⟨hp0, hp0c⟩ := hp0
          have hk : k < M := by first | omega | (simp at h; omega)
          obtain ⟨X, hX⟩ : ∃ X, (sbys s).drop (16 * k) = X := ⟨_, rfl⟩
          have e8 : sbys (s.extract (16 * k + 4) (16 * k + 12)) = (X.drop 4).take 8 := by rw [sbys_extract, ← hX, List.drop_drop, List.drop_take, show 16 * k + 12 - (16 * k + 4) = 8 by omega]
          have e4 : sbys (s.extract (16 * k) (16 * k + 4)) = X.take 4 := by rw [sbys_extract, ← hX, List.drop_take, show 16 * k + 4 - 16 * k = 4 by omega]
          obtain ⟨cc, k1, k2⟩ := sbys_at (show 16 * k + 12 < s.size by omega)
          have hcc : X.getD 12 0 = cc.toNat := by rw [← hX, List.getD_eq_getElem?_getD, List.getElem?_drop, k2]; rfl
          have h4 : nm (X.take 4) < 256 ^ 4 := by rw [← hX]; exact nm_lt_of (s := s) (fun x hx => List.mem_of_mem_drop (List.mem_of_mem_take hx)) (List.length_take_le _ _)
          have hlk := unL_len (sbys s) k
          refine tc_skip ?_; refine q_then_n ?_; refine tc_seq ?_; refine tc_block ?_; refine sr ?_; refine tlm ?_; refine tlm ?_; refine tv (by first | exact o_addI rfl rfl (by omega) | exact o_add rfl rfl) ?_; refine tl_env (d := 26) (v := .int .i64 ((16 * k + 4 : Nat) : Int)) (rfl) ?_; refine tlm ?_; refine tv (by first | exact o_addI rfl rfl (by omega) | exact o_add rfl rfl) ?_; refine tl_env (d := 28) (v := .int .i64 ((16 * k + 12 : Nat) : Int)) (rfl) ?_; refine tv (o_sliceS (l := 16 * k + 4) (h := 16 * k + 12) Try.underlying9 rfl (bnd_nat rfl) (bnd_nat rfl) (by omega) (by omega)) ?_; refine tl_c rfl (o_call bd54 rfl (number19_c (s := s.extract (16 * k + 4) (16 * k + 12)) (hs := by rw [← sbys_len, e8]; exact List.length_take_le _ _))) ?_; rintro _ _ ⟨rfl, rfl⟩; refine tl_env (d := 30) (v := .int .u64 (nm ((X.drop 4).take 8) : Nat)) (by show Value.int .u64 _ = _; rw [e8]) ?_; refine tla ?_; refine nq ?_; refine tc_seq ?_; refine sr ?_; refine tlm ?_; refine tv (o_gtr rfl rfl) ?_; refine nq ?_; refine tc_cond rfl (fun h => ?_) (fun h => ?_)
          · have hfar : farA ((sbys s).drop (16 * k)) = true := by rw [hX]; unfold farA; exact decide_eq_true (by first | omega | (simp at h; omega))
            refine sr ?_; refine tla ?_; refine tla ?_; refine nq ?_; refine tc_ret ?_; refine q_then_r (q_block_r (q_then_r (q_then_r (q_block_r (q_then_r ?_)))))
            have e0 : unpS s = ([], 190) := by unfold unpS; rw [if_neg (by omega), hM, if_pos (List.any_eq_true.2 ⟨k, List.mem_range.2 hk, hfar⟩)]
            rw [e0]
            exact ⟨.tuple #[.slice none 0 0, .int .i64 (190)], A * Sl 3 (.slice none 0 0) 0 [], res2 rfl rfl rfl, fun _ _ h => sl_nil (Dr.sat (by repeat (first | with_reducible exact dr_refl | apply dr_keep | apply dr_drop)) _ _ h), none, 0, rfl, Nat.le_refl _, rfl⟩
          · have hf8 : nm ((X.drop 4).take 8) ≤ 9223372036854775807 := by first | omega | (simp at h; omega)
            have hfar : farA ((sbys s).drop (16 * k)) = false := by rw [hX]; unfold farA; exact decide_eq_false (by omega)
            refine tc_skip ?_; refine q_then_n ?_; refine tc_regh (S := A) mo (by repeat (first | with_reducible exact dr_refl | apply dr_keep | apply dr_drop)) ?_
            show TH _ _ _ _ _ 18 #[ff,ff,ff,ff,ff,ff,ff,ff,ff,ff,ff,ff,ff,ff,ff,ff,ff,ff] _ _
            refine th_take (i := 0) (listed' := #[tt,ff,ff,ff,ff,ff,ff,ff,ff,ff,ff,ff,ff,ff,ff,ff,ff,ff]) rfl (by kernel_rfl) (by kernel_rfl) (by kernel_rfl) rfl rfl (o_move (by conv => lhs; whnf)) ?_; refine th_take (i := 1) (listed' := #[tt,tt,ff,ff,ff,ff,ff,ff,ff,ff,ff,ff,ff,ff,ff,ff,ff,ff]) rfl (by kernel_rfl) (by kernel_rfl) (by kernel_rfl) rfl rfl (o_move (by conv => lhs; whnf)) ?_; refine th_take (i := 2) (listed' := #[tt,tt,tt,ff,ff,ff,ff,ff,ff,ff,ff,ff,ff,ff,ff,ff,ff,ff]) rfl (by kernel_rfl) (by kernel_rfl) (by kernel_rfl) rfl rfl (o_move (by conv => lhs; whnf)) ?_; refine th_take (i := 3) (listed' := #[tt,tt,tt,tt,ff,ff,ff,ff,ff,ff,ff,ff,ff,ff,ff,ff,ff,ff]) rfl (by kernel_rfl) (by kernel_rfl) (by kernel_rfl) rfl rfl (o_move (by conv => lhs; whnf)) ?_; refine th_take (i := 4) (listed' := #[tt,tt,tt,tt,tt,ff,ff,ff,ff,ff,ff,ff,ff,ff,ff,ff,ff,ff]) rfl (by kernel_rfl) (by kernel_rfl) (by kernel_rfl) rfl rfl (by first | exact o_addI rfl rfl (by omega) | exact o_add rfl rfl) ?_; refine th_env (d := 37) (v := .int .i64 ((16 * k + 4 : Nat) : Int)) (rfl) ?_; refine th_take (i := 5) (listed' := #[tt,tt,tt,tt,tt,tt,ff,ff,ff,ff,ff,ff,ff,ff,ff,ff,ff,ff]) rfl (by kernel_rfl) (by kernel_rfl) (by kernel_rfl) rfl rfl (o_sliceS (l := 16 * k) (h := 16 * k + 4) Try.underlying9 rfl (bnd_nat rfl) (bnd_nat rfl) (by omega) (by omega)) ?_; refine th_take (i := 8) (listed' := #[tt,tt,tt,tt,tt,tt,ff,ff,tt,ff,ff,ff,ff,ff,ff,ff,ff,ff]) rfl (by kernel_rfl) (by kernel_rfl) (by kernel_rfl) rfl rfl (o_move (by conv => lhs; whnf)) ?_
            refine th_take (i := 9) (listed' := #[tt,tt,tt,tt,tt,tt,ff,ff,tt,tt,ff,ff,ff,ff,ff,ff,ff,ff]) rfl (by kernel_rfl) (by kernel_rfl) (by kernel_rfl) rfl rfl (o_conv Try.underlying66 Try.underlying3 rfl) ?_; refine th_env (d := 42) (v := .int .i64 (nm ((X.drop 4).take 8) : Nat)) (by show Value.int .i64 (IntKind.i64.wrap _) = _; rw [wrap_i64 (by omega)]) ?_; refine th_take (i := 10) (listed' := #[tt,tt,tt,tt,tt,tt,ff,ff,tt,tt,tt,ff,ff,ff,ff,ff,ff,ff]) rfl (by kernel_rfl) (by kernel_rfl) (by kernel_rfl) rfl rfl (o_move (by conv => lhs; whnf)) ?_; refine th_take (i := 11) (listed' := #[tt,tt,tt,tt,tt,tt,ff,ff,tt,tt,tt,tt,ff,ff,ff,ff,ff,ff]) rfl (by kernel_rfl) (by kernel_rfl) (by kernel_rfl) rfl rfl (o_move (by conv => lhs; whnf)) ?_; refine th_take (i := 12) (listed' := #[tt,tt,tt,tt,tt,tt,ff,ff,tt,tt,tt,tt,tt,ff,ff,ff,ff,ff]) rfl (by kernel_rfl) (by kernel_rfl) (by kernel_rfl) rfl rfl (by first | exact o_addI rfl rfl (by omega) | exact o_add rfl rfl) ?_; refine th_env (d := 45) (v := .int .i64 ((16 * k + 12 : Nat) : Int)) (rfl) ?_; refine th_take (i := 13) (listed' := #[tt,tt,tt,tt,tt,tt,ff,ff,tt,tt,tt,tt,tt,tt,ff,ff,ff,ff]) rfl (by kernel_rfl) (by kernel_rfl) (by kernel_rfl) rfl rfl (o_indexS Try.underlying9 rfl rfl (by omega) k1) ?_; refine th_env (d := 46) (v := .int .u8 (X.getD 12 0 : Nat)) (by show Value.int .u8 ((cc.toNat : Nat) : Int) = _; rw [hcc]) ?_; refine th_one (i := 6) (by kernel_rfl) ?_
            refine oh_c (i := 6) (listed' := #[tt,tt,tt,tt,tt,tt,tt,ff,tt,tt,tt,tt,tt,tt,ff,ff,ff,ff]) rfl rfl rfl (o_call bd54 rfl (number19_c (s := s.extract (16 * k) (16 * k + 4)) (hs := by rw [← sbys_len, e4]; exact Nat.le_trans (List.length_take_le _ _) (by decide)))) ?_; rintro _ _ ⟨rfl, rfl⟩; refine ⟨by repeat (first | with_reducible exact dr_refl | apply dr_keep | apply dr_drop), ?_⟩; refine th_env (d := 39) (v := .int .u64 (nm (X.take 4) : Nat)) (by show Value.int .u64 _ = _; rw [e4]) ?_; refine th_take (i := 7) (listed' := #[tt,tt,tt,tt,tt,tt,tt,tt,tt,tt,tt,tt,tt,tt,ff,ff,ff,ff]) rfl (by kernel_rfl) (by kernel_rfl) (by kernel_rfl) rfl rfl (by first | exact o_conv32 Try.underlying66 Try.underlying33 rfl | exact o_conv Try.underlying66 Try.underlying33 rfl) ?_; refine th_env (d := 40) (v := .int .u32 (nm (X.take 4) : Nat)) (congrArg (fun z : Nat => Value.int .u32 (z : Int)) (Nat.mod_eq_of_lt (by omega))) ?_; refine th_take (i := 14) (listed' := #[tt,tt,tt,tt,tt,tt,tt,tt,tt,tt,tt,tt,tt,tt,tt,ff,ff,ff]) rfl (by kernel_rfl) (by kernel_rfl) (by kernel_rfl) rfl rfl (o_bS (l := [_, _, _]) (pv_cons (by conv => lhs; whnf) (pv_cons (by conv => lhs; whnf) (pv_cons (by conv => lhs; whnf) pv_nil))) Try.underlying35 z35 (pl35 Try.underlying35) rfl) ?_; refine th_one (i := 15) (by kernel_rfl) ?_; refine oh_x (i := 15) (listed' := #[tt,tt,tt,tt,tt,tt,tt,tt,tt,tt,tt,tt,tt,tt,tt,tt,ff,ff]) rfl rfl rfl (o_buildSliceK (k := 3) (l := (mkA X).cells) Try.underlying22 sz35 z35 rfl rfl (by decide)) ?_
            rintro _ _ ⟨b48, rfl, rfl⟩; refine ⟨by repeat (first | with_reducible exact dr_refl | apply dr_keep | apply dr_drop), ?_⟩; refine th_one (i := 16) (by kernel_rfl) ?_; refine oh_x (i := 16) (listed' := #[tt,tt,tt,tt,tt,tt,tt,tt,tt,tt,tt,tt,tt,tt,tt,tt,tt,ff]) rfl rfl rfl (o_apB Try.underlying22 Try.underlying22 sz35 by35 z35 rfl (by decide) (by decide) rfl rfl rfl (by repeat (first | with_reducible exact ct_here | apply ct_left)) rfl rfl (by omega) (show _ = mcs (unL (sbys s) k ++ [mkA X]) by rw [mcs_append]; rfl)) ?_; rintro _ _ ⟨a49, c49, rfl, hc49, rfl⟩; refine ⟨by repeat (first | with_reducible exact dr_refl | apply dr_keep | apply dr_drop), ?_⟩; refine th_take (i := 17) (listed' := #[tt,tt,tt,tt,tt,tt,tt,tt,tt,tt,tt,tt,tt,tt,tt,tt,tt,tt]) rfl (by kernel_rfl) (by kernel_rfl) (by kernel_rfl) rfl rfl (o_assign (by conv => lhs; whnf)) ?_; refine th_done (by kernel_rfl) ?_; refine q_block_n (q_then_n ?_); refine tc_reg ?_; refine tlm ?_; refine tv (by first | exact o_addI rfl rfl (by omega) | exact o_add rfl rfl) ?_; refine tla ?_; refine nq ?_; exact ⟨_, by omega, k + 1, _, _, ⟨by omega, hc49⟩, by intro j hj; rcases Nat.lt_succ_iff_lt_or_eq.1 hj with h1 | rfl; exact hp1 j h1; exact hfar, rfl, rfl, rfl, rfl, by rw [unL_succ, hX]; repeat (first | with_reducible exact dr_refl | apply dr_keep | apply dr_drop)⟩
        · obtain ⟨hp0, hp0c⟩ := hp0
          obtain rfl : k = M := by first | omega | (simp at h; omega)
          have hW := unL_w hp1
          have hlk := unL_len (sbys s) k
          have hany : (List.range k).any (fun k => farA ((sbys s).drop (16 * k))) = false := by rw [List.any_eq_false]; intro j hj; rw [hp1 j (List.mem_range.1 hj)]; decide
          refine tc_exit ?_; refine q_then_e (q_then_e (q_block_x (q_then_n ?_))); refine sr ?_; refine tlm ?_; refine tl_c rfl (o_call bd28 rfl (rPack_c (l := unL (sbys s) k))) ?_; rintro _ _ ⟨rfl, rfl⟩; refine tlm ?_; refine tv (o_extract rfl rfl) ?_; refine tv (o_extract rfl rfl) ?_; refine tla ?_; refine tla ?_; refine nq ?_; refine tc_seq ?_; refine sr ?_; refine tlm ?_; refine tv (o_nei rfl rfl) ?_; refine tlm ?_; refine tl_bool (d := 57) rfl (fun h => ?_) (fun h => ?_)
          · have hne2 : ¬ ((packS (unL (sbys s) k)).2 = 0 ∧ (packS (unL (sbys s) k)).1.toList = s.toList) := fun hc => by first | (simp [hc.1] at h; done) | (simp at h; omega)
            refine tk ?_; refine tk ?_; refine tk ?_; refine tv (o_pick_t rfl (by conv => lhs; whnf)) ?_; refine nq ?_; refine tc_cond_t rfl ?_; refine sr ?_; refine tla ?_; refine tla ?_; refine nq ?_; refine tc_ret ?_; refine q_then_r ?_
            have e0 : unpS s = ([], 190) := by unfold unpS; rw [if_neg (by omega), hM, if_neg (by rw [hany]; decide), if_neg hne2]
            rw [e0]
            exact ⟨.tuple #[.slice none 0 0, .int .i64 (190)], A * Sl 3 (.slice none 0 0) 0 [], res2 rfl rfl rfl, fun _ _ h => sl_nil (Dr.sat (by repeat (first | with_reducible exact dr_refl | apply dr_keep | apply dr_drop)) _ _ h), none, 0, rfl, Nat.le_refl _, rfl⟩
          · have he2 : (packS (unL (sbys s) k)).2 = 0 := by first | omega | (simp at h; omega)
            refine tlm ?_; refine tlm ?_; refine tv (o_nestr rfl rfl) ?_; refine tv (o_pick_f rfl (by conv => lhs; whnf)) ?_; refine nq ?_; refine tc_cond rfl (fun h => ?_) (fun h => ?_)
            · have hne2 : ¬ ((packS (unL (sbys s) k)).2 = 0 ∧ (packS (unL (sbys s) k)).1.toList = s.toList) := by first | assumption | exact fun hc => by (first | exact absurd hc.2 (of_decide_eq_true h) | (simp [hc.2] at h; done))
              refine sr ?_; refine tla ?_; refine tla ?_; refine nq ?_; refine tc_ret ?_; refine q_then_r ?_
              have e0 : unpS s = ([], 190) := by unfold unpS; rw [if_neg (by omega), hM, if_neg (by rw [hany]; decide), if_neg hne2]
              rw [e0]
              exact ⟨.tuple #[.slice none 0 0, .int .i64 (190)], A * Sl 3 (.slice none 0 0) 0 [], res2 rfl rfl rfl, fun _ _ h => sl_nil (Dr.sat (by repeat (first | with_reducible exact dr_refl | apply dr_keep | apply dr_drop)) _ _ h), none, 0, rfl, Nat.le_refl _, rfl⟩
            · have he3 : (packS (unL (sbys s) k)).1.toList = s.toList := by simpa using h
              refine tc_skip ?_; refine q_then_n ?_; refine sr ?_; refine tlm ?_; refine tla ?_; refine tla ?_; refine nq ?_; refine tc_ret ?_
              have hun : unpS s = (unL (sbys s) k, 0) := by unfold unpS; rw [if_neg (by omega), hM, if_neg (by rw [hany]; decide), if_pos ⟨he2, he3⟩]
              rw [hun]
              exact ⟨.tuple #[.slice a4 k c4, .int .i64 0], A * Sl 3 (.slice a4 k c4) k (mcs (unL (sbys s) k)), res2 rfl rfl rfl, fun _ _ h => h, a4, c4, by rw [hlk], by rw [hlk]; omega, by rw [hlk]⟩
end Go.Vl

set_option linter.unusedVariables false
set_option linter.unusedSimpArgs false
namespace Go.Vl
open Go Go.Proofs
section
variable {P : Program} {n : Nat} {ρ : Env} {A : SP} {dst : Option Tmp} {ty : TypeId} {pos : String} {after : Array Edge} {gd : Option (Nat × Bool)}
theorem o_s2b {s t e : TypeId} {x : Operand} {str : ByteArray} (hs0 : P.underlying s = some .string) (ht : P.underlying t = some (.slice e)) (he : P.underlying e = some (.int .u8)) (hx : ev n ρ x = .string str) :
    OpX P n ρ A ⟨dst, .convert s t x, ty, pos, after, gd⟩ (fun v B => ∃ b c o, v = .slice (some ⟨b, 0, none⟩) str.size c ∧ str.size ≤ c ∧ (∀ R : SP, Rs (R * pt b o) (some ⟨b, 0, none⟩) (bys (sbys str))) ∧ B = A * pt b o) := fun g w hs => by
  obtain ⟨L, hL⟩ : ∃ L, (Go.Lib.bytesCells w e str).toList = L := ⟨_, rfl⟩
  have hLa : Go.Lib.bytesCells w e str = L.toArray := by rw [← hL]
  have hsd : sat g w.drew A := hs.draw rfl rfl rfl rfl
  have hsz : w.drew.heap.size = w.heap.size := rfl
  have h2 := hsd.alloc (cl L e)
  rw [hsz] at h2
  have hu : Upd (A * pt w.heap.size (cl L e)) w.heap.size (cl L e) (.cells L.toArray e (L.length, L.length + 1)) (A * pt w.heap.size (.cells L.toArray e (L.length, L.length + 1))) := upd_here
  have hw' : Go.Lib.bytesWorld w e str = (w.drew.alloc (cl L e)).freeze ⟨w.heap.size, L.length, none⟩ 1 := by
    unfold Go.Lib.bytesWorld
    rw [hLa]; rfl
  have h3 : sat g (Go.Lib.bytesWorld w e str) (A * pt w.heap.size (.cells L.toArray e (L.length, L.length + 1))) := by
    rw [hw']
    refine hu.sat h2 (fun k => ?_) rfl rfl rfl
    unfold World.freeze
    rw [if_neg (by decide)]
    show ((w.drew.alloc (cl L e)).heap.modify w.heap.size _)[k]? = _
    rw [Array.getElem?_modify]
    by_cases hk : w.heap.size = k
    · subst hk; rw [if_pos rfl, if_pos rfl, hu.has g _ h2]; simp [cl]
    · rw [if_neg hk, if_neg (Ne.symm hk)]
  refine ⟨_, Go.Lib.bytesWorld w e str, _, ?_, h3, w.heap.size, _, _, rfl, grownCap_ge w str.size 0 e, fun R => ?_, rfl⟩
  · simp only [execOp, hx]
    rw [run_bind (Go.Lib.run_convert_string_bytes w s t e str hs0 ht he)]
    rfl
  · have hr := rs_mk (R := R) (b := w.heap.size) (l := L) (E := e) (fz := (L.length, L.length + 1))
    have hp : L.take str.size = bys (sbys str) := by
      rw [← hL]
      unfold Go.Lib.bytesCells
      rw [Array.toList_append, List.take_left' (by simp)]
      simp [bys, sbys, b8]
    rw [← hp]
    exact hr.sub _
theorem o_slice3 {t e : TypeId} {x y z u : Operand} {a : Option Addr} {len cap l h m k : Nat} {k1 k2 k3 : IntKind} (hu : P.underlying t = some (.slice e)) (hk : szE P e = some k) (hx : ev n ρ x = .slice a len cap)
    (hl : ev n ρ y = .int k1 (l : Nat)) (hh : ev n ρ z = .int k2 (h : Nat)) (hm : ev n ρ u = .int k3 (m : Nat)) (h1 : l ≤ h) (h2 : h ≤ m) (h3 : m ≤ cap) :
    OpV P n ρ A ⟨dst, .slice t x (some y) (some z) (some u), ty, pos, after, gd⟩ (.slice (cutAddr a m l k) (h - l) (m - l)) := opv_of fun w => by
  simp only [execOp, hx, Option.map_some, hl, hh, hm]
  rw [run_bind (w' := w) (a := .slice (cutAddr a m l k) (h - l) (m - l))]
  · rfl
  unfold Instr.sliceAt
  rw [run_bind (run_und hu)]
  try simp only []
  unfold Instr.slice
  rw [run_bind (run_und hu)]
  try simp only []
  have : (Instr.sliceBounds true len cap (some (Value.int k1 (l : Nat))) (some (Value.int k2 (h : Nat))) (some (Value.int k3 (m : Nat)))).run P w = .ok (l, h, m) w := by
    unfold Instr.sliceBounds
    simp only [Option.isSome_some, if_true]
    rw [run_bind (run_bound h3)]
    try simp only []
    rw [run_bind (run_bound h2)]
    rw [run_bind (run_bound h1)]
    rfl
  rw [run_bind this]
  try simp only []
  rw [run_bind (run_size hk)]
  rfl
end
end Go.Vl

set_option linter.unusedVariables false
set_option linter.unusedSimpArgs false
namespace Go.Vl
open Go Go.Proofs
namespace Rg
section
variable {P : Program} {n : Nat} {ops : Array Oper} {A : SP} {ρ : Env} {o : Oper} {rest : List Oper} {Q : Post}
def QL (P : Program) (n : Nat) (ops : Array Oper) (A : SP) (K : Env → Prop) (l : List Oper) (ρ : Env) : Prop :=
  ∀ g a, Agr n ρ a → wpQuietIn (Fc ⟨none⟩) 0 P ops (fun w => sat g w A) (fun a' => ∃ ρ', Agr n ρ' a' ∧ K ρ') l a
theorem ql_nil {K : Env → Prop} (h : K ρ) : QL P n ops A K [] ρ := fun g a ha => wpQuietIn_nil ⟨ρ, ha, h⟩
theorem ql_skip {K : Env → Prop} (hw : wantE n ops ρ o = false) (k : QL P n ops A K rest (put n ρ o.dst undef)) : QL P n ops A K (o :: rest) ρ := fun g a ha => by
  unfold wpQuietIn
  rw [want_eq ha, hw]
  exact ⟨fun _ _ _ _ => trivial, k g _ (ha.put _ _)⟩
theorem ql_v {K : Env → Prop} {v : Value} (hw : wantE n ops ρ o = true) (h : OpV P n ρ A o v) (k : QL P n ops A K rest (put n ρ o.dst v)) : QL P n ops A K (o :: rest) ρ := fun g a ha => by
  unfold wpQuietIn
  rw [want_eq ha, hw, if_pos rfl]
  refine ⟨fun _ _ _ _ => trivial, v, fun w hs => ?_, k g _ (ha.put _ _)⟩
  unfold Oper.quietAtIn
  rw [ha.eval, h g w hs]
  exact ⟨rfl, rfl⟩
theorem ql_env {K : Env → Prop} {l : List Oper} {d : Nat} {v : Value} (h : ρ d = v) (k : QL P n ops A K l (upd ρ d v)) : QL P n ops A K l ρ := by
  rw [← env_set h] at k; exact k
theorem ql_bool {K : Env → Prop} {l : List Oper} {d : Nat} {b : Bool} (hv : ρ d = .bool b) (ht : b = true → QL P n ops A K l (upd ρ d (.bool true))) (hf : b = false → QL P n ops A K l (upd ρ d (.bool false))) : QL P n ops A K l ρ := by
  cases b with
  | true => exact ql_env hv (ht rfl)
  | false => exact ql_env hv (hf rfl)
theorem tc_regq {id : Nat} {l : List Oper} (hm : P.follows .mixedOrders = true) (hB : Region.lexB .any l.toArray = true) (h : QL P n l.toArray A (fun ρ' => Q .normal ρ' A) l ρ) :
    @TC ⟨none⟩ P n (.region id l.toArray true) Q ρ A := fun g a w ha hs => by
  refine wpIn_region_quiet (C := fun w => sat g w A) rfl hm hB (hs.draw rfl rfl rfl rfl) ?_
  have hh := h g a ha
  have he : l.toArray.toList = l := by simp
  rw [he]
  have mono : ∀ (l' : List Oper) (a : Act), wpQuietIn (Fc ⟨none⟩) 0 P l.toArray (fun w => sat g w A) (fun a' => ∃ ρ', Agr n ρ' a' ∧ Q .normal ρ' A) l' a →
      wpQuietIn (Fc ⟨none⟩) 0 P l.toArray (fun w => sat g w A) (fun a' => ∀ w', sat g w' A → lift g n Q .normal a' w') l' a := by
    intro l'
    induction l' with
    | nil => intro a ⟨ρ', h1, h2⟩ w' hw'; exact ⟨rfl, ρ', A, h1, hw', h2⟩
    | cons o l' ih =>
      intro a h
      unfold wpQuietIn at h ⊢
      refine ⟨h.1, ?_⟩
      have h2 := h.2
      split
      · rename_i hw
        rw [if_pos hw] at h2
        exact Oper.quietIn_mono (fun a => ih a) h2
      · rename_i hw
        rw [if_neg hw] at h2
        exact ih _ h2
  exact mono l a hh
end
end Rg
end Go.Vl
