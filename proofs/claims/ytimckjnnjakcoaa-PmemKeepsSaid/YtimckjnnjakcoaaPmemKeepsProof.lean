/- PmemKeeps: the row. Conditions: none. -/
import Derived.Test.YtimckjnnjakcoaaRows
import Derived.Test.YtimckjnnjakcoaaL8n
import Derived.Test.YtimckjnnjakcoaaL8s
import Derived.WalkKit
import Derived.ProofKit
import Derived.OpenShut
import Derived.ShutString
import Derived.ChangeOld
import Derived.Below
import Derived.SizedLaws
namespace Go.Proofs.Ytimckjnnjakcoaa.pmemKeeps
open Go.ChangeShapes Go.WideShapes Go.ChangeAt Go.RowKit
open Go.ChangeMaps (open_string shut_string)
set_option linter.unusedVariables false

theorem own : ownKnob Try.prog.godebug = none := by kernel_rfl
theorem laidOut : laidOutB Try.prog = true := by kernel_rfl

theorem walk (a0 : Int) (a1 : Option Addr) (len1 cap1 : Nat) (x1 : List Vl.StepC) (a2 : Option Addr) (len2 cap2 : Nat) (x2 : List Int) (w : World) (w0 : (Lit.int .i64 a0).wf = true) (e1 : x1.length = len1) (r1 : Vl.Rd (Vl.old w) a1 (Vl.scs x1)) (b1 : ∀ n ∈ x1, n.v < 18446744073709551616) (s1 : len1 * 104 ≤ 140737488351232) (e2 : x2.length = len2) (r2 : Vl.Rd (Vl.old w) a2 (Vl.ints x2)) (b2 : ∀ n ∈ x2, (Lit.int .i64 n).wf = true) (s2 : len2 * 8 ≤ 140737488351232) :
    Calls Try.prog 5 #[.int .i64 a0, .slice a1 len1 cap1, .slice a2 len2 cap2] w fun e w' => e = .returned (.bool true) ∧ Below w.heap.size w w' := by
  have z0 := bounds_i64 w0
  subst e1
  subst e2
  refine (Vl.PmemKeeps_f (Vl.old w) a0 a1 a2 cap1 cap2 x1 x2 r1 r2 b1 (by omega) (by omega) (fun k hk => (bounds_i64 (b2 k hk)).2) _ w (Vl.sat_old w)).mono ?_
  rintro e w' ⟨v, B, rfl, ⟨rfl, rfl⟩, hB⟩
  exact ⟨rfl, Vl.below_of_old hB⟩

set_option maxRecDepth 100000 in
theorem lifted (os : Os) (started : os.Started) (H : Type) (enc : TypeId × Value → H) :
    ReturnsInHanded {} Try.checked os 5 .any (Rows.pmemKeepsSpec.pre6 enc Try.prog Try.f5 Rows.pmemKeepsRow.domain false) (Rows.pmemKeepsSpec.post enc Try.prog Try.f5 false true false false) := by
  refine returnsInHanded_of_change_sized (C := Try.checked) own started (by kernel_rfl) Try.func5
    (ChangeSpec.witness6 (enc := enc) (C := Try.checked) false ⟨#[], #[.int .i64 0, .slice none 0 0, .slice none 0 0], []⟩ 8 (by kernel_rfl) (by kernel_rfl) (by kernel_rfl) (by kernel_rfl)) ?_
  intro W base args ds gs before hval0 hW hcnd hsz0 _
  have hval : ∀ (j : Nat) t v, Try.f5.params[j]? = some t → args[j]? = some v → Value.okWide Try.prog W .any base t v := hval0
  have hW' := hW
  obtain ⟨p, q, hA0, hV, rfl, hfz, hnd⟩ := hW
  have hA : DataW.TrodAll enc Try.prog W 0 (fun _ => true) true Try.f5.params.toList args.toList ds p := hA0
  have hsz : (DataW.weightsEach Try.prog (Try.f5.params.toList ++ Rows.pmemKeepsSpec.plain.varTypes Try.prog) (ds ++ gs)).all (· ≤ reachBytes) = true := hsz0
  rw [Try.params5] at hA hval hsz
  obtain ⟨v0, vs0, d0, ds0, p0, q0, hargs, rfl, rfl, h0, r0⟩ := trodAll_cons hA
  obtain ⟨v1, vs1, d1, ds1, p1, q1, rfl, rfl, rfl, h1, r1⟩ := trodAll_cons r0
  obtain ⟨v2, vs2, d2, ds2, p2, q2, rfl, rfl, rfl, h2, r2⟩ := trodAll_cons r1
  obtain ⟨rfl, rfl, rfl⟩ := trodAll_nil r2
  obtain rfl : args = #[v0, v1, v2] := by cases args; simp_all
  obtain ⟨rfl, rfl⟩ := trodVars_none hV
  obtain ⟨a0, rfl, rfl, rfl, w0⟩ := open_int Try.underlying3 (hval 0 3 v0 rfl rfl) h0
  obtain ⟨a1, len1, cap1, rfl⟩ := okWide_slice Try.underlying36 (hval 1 36 v1 rfl rfl)
  have k1 := h1
  have lt1 : ∀ x ∈ p1, x.block < W.heap.size := by obtain ⟨m, hm⟩ := k1; exact DataW.trod_lt m _ _ _ hm
  have bb1 : Try.prog.bytesOf 76 = 104 := by kernel_rfl
  have s1 : len1 * 104 ≤ 140737488351232 := by
    obtain ⟨fuel, hf⟩ := h1
    rcases Deep.open_slice Try.underlying36 hf with ⟨e, _⟩ | ⟨b, l, c, m, n, D, Pl, e, _, hl, _, hm, hx, _⟩
    · simp [Value.cells] at e; omega
    · simp [Value.cells] at e
      obtain ⟨rfl, rfl, rfl⟩ := e
      simp only [Prod.mk.injEq] at hx
      obtain ⟨rfl, _⟩ := hx
      have := sized_slice hsz (j := 1) (t := 36) (e := 76) rfl rfl Try.underlying36
      rw [bb1] at this
      simp [reachBytes] at this
      have h3 : len1 * 104 ≤ (len1 + (m - len1)) * 104 := Nat.mul_le_mul_right _ (by omega)
      omega
  obtain ⟨x1, e1, rr1, bd1⟩ : ∃ ss : List Vl.StepC, ss.length = len1 ∧ Vl.Rd (Vl.old W) a1 (Vl.scs ss) ∧ ∀ t ∈ ss, t.v < 18446744073709551616 := by
    obtain ⟨fuel, hf⟩ := h1
    exact Vl.steps_read (by simpa [Value.cells] using hf)
  obtain ⟨a2, len2, cap2, rfl⟩ := okWide_slice Try.underlying37 (hval 2 37 v2 rfl rfl)
  have k2 := h2
  have lt2 : ∀ x ∈ p2, x.block < W.heap.size := by obtain ⟨m, hm⟩ := k2; exact DataW.trod_lt m _ _ _ hm
  have bb2 : Try.prog.bytesOf 3 = 8 := by kernel_rfl
  have s2 : len2 * 8 ≤ 140737488351232 := by
    obtain ⟨fuel, hf⟩ := h2
    rcases Deep.open_slice Try.underlying37 hf with ⟨e, _⟩ | ⟨b, l, c, m, n, D, Pl, e, _, hl, _, hm, hx, _⟩
    · simp [Value.cells] at e; omega
    · simp [Value.cells] at e
      obtain ⟨rfl, rfl, rfl⟩ := e
      simp only [Prod.mk.injEq] at hx
      obtain ⟨rfl, _⟩ := hx
      have := sized_slice hsz (j := 2) (t := 37) (e := 3) rfl rfl Try.underlying37
      rw [bb2] at this
      simp [reachBytes] at this
      have h3 : len2 * 8 ≤ (len2 + (m - len2)) * 8 := Nat.mul_le_mul_right _ (by omega)
      omega
  obtain ⟨z2, ez2, rz2, bz2⟩ : ∃ zs : List Int, zs.length = len2 ∧ Vl.Rd (Vl.old W) a2 (zs.map (Value.int .i64)) ∧ ∀ n ∈ zs, (Lit.int .i64 n).wf = true := by
    obtain ⟨fuel, hf⟩ := h2
    rcases open_ints Try.underlying37 Try.underlying3 (by kernel_rfl) hf with ⟨hcs, _⟩ | ⟨x, l, c, zs, hcs, _, hl, hm, hz, _, hcell, hwz⟩
    · simp [Value.cells] at hcs
      obtain ⟨rfl, rfl, rfl⟩ := hcs
      exact ⟨[], rfl, .inl rfl, by simp⟩
    · simp [Value.cells] at hcs
      obtain ⟨rfl, rfl, rfl⟩ := hcs
      have hz' : zs.length = cap2 := by simpa using hz
      exact ⟨zs.take len2, by rw [List.length_take]; omega, Vl.rd_ints (by omega) hcell, fun n hn => hwz n (List.mem_of_mem_take hn)⟩
  obtain ⟨x2, e2, rr2, bd2⟩ : ∃ zs : List Int, zs.length = len2 ∧ Vl.Rd (Vl.old W) a2 (Vl.ints zs) ∧ ∀ n ∈ zs, (Lit.int .i64 n).wf = true := ⟨z2, ez2, rz2, bz2⟩
  clear hA0 hval0 hsz0
  refine (walk a0 a1 len1 cap1 x1 a2 len2 cap2 x2 W w0 e1 rr1 bd1 s1 e2 rr2 bd2 s2).mono fun e W' ⟨he, bel⟩ => ?_
  subst he
  exact ⟨_, rfl, _, _, _, [], _, [], hW', trodAll_mk1 (shut_bool Try.underlying4 _), (trodAll_cons_mk (shut_int Try.underlying3 w0) (trodAll_cons_mk (Below.trod laidOut (by kernel_rfl) (of_decide_eq_true (by kernel_rfl)) k1 bel lt1) (trodAll_cons_mk (Below.trod laidOut (by kernel_rfl) (of_decide_eq_true (by kernel_rfl)) k2 bel lt2) trodAll_mk0))), rfl, bel.frame _, fun h => by cases h⟩

theorem over : Rows.pmemKeepsRow.holds Try.pinned (OpenSpec.ofChange Rows.pmemKeepsSpec) :=
  OpenClaim.holds_of_wide 5 Try.f5 rfl rfl rfl rfl rfl rfl rfl ⟨rfl, rfl, rfl, rfl, rfl⟩ rfl rfl rfl rfl rfl (by kernel_rfl) Try.func5 (by kernel_rfl)
    (of_decide_eq_true (by kernel_rfl)) (by unfold Func.isWrapper; first | (rw [if_pos (by decide +kernel)]; kernel_rfl) | (rw [if_neg (by decide +kernel)]; exact ⟨rfl, rfl⟩))
    (fun os started H enc _ => lifted os started H enc)

theorem proved : Rows.PmemKeepsSaid := over
#print axioms proved
end Go.Proofs.Ytimckjnnjakcoaa.pmemKeeps
