/- The contracts of package pmem, on a part of what there is. Conditions: none. -/
import Derived.Test.YtimckjnnjakcoaaV2
import Derived.Test.YtimckjnnjakcoaaL8b
import Derived.Test.YtimckjnnjakcoaaL8e
import Derived.Test.YtimckjnnjakcoaaRefA
import Derived.Test.YtimckjnnjakcoaaPmemC
set_option linter.unusedVariables false
set_option linter.unusedSimpArgs false
namespace Go.Vl
open Go Go.Proofs


/-- What a slice that is made looks like. -/
theorem fn_sl {P : Program} {f : FuncId} {args : Array Value} {A A0 : SP} {k n : Nat} {xs : List Value} (h : Fn P f args A (fun r B => B = A0 * Sl k r n xs)) : Fn P f args A (fun r B => ∃ a c, r = .slice a n c ∧ n ≤ c ∧ B = A0 * Sl k (.slice a n c) n xs) := fun g w hs => by
  refine (h g w hs).mono ?_
  rintro e w' ⟨v, B, rfl, rfl, hB⟩
  obtain ⟨a, c, rfl, h1, _⟩ := sl_have hB
  exact ⟨_, _, rfl, ⟨a, c, rfl, h1, rfl⟩, hB⟩
theorem ql_env {P : Program} {n : Nat} {ops : Array Oper} {A : SP} {K : Env → Prop} {l : List Oper} {ρ : Env} {d : Nat} {v : Value} (h : ρ d = v) (k : QL P n ops A K l (upd ρ d v)) : QL P n ops A K l ρ := by
  rw [← env_set h] at k; exact k

theorem Ops_c {A R : SP} {C : SP → SP} {d : Nat} {s : DevS} (hc : Ct A (Dev d s) R C := by repeat (first | with_reducible exact ct_here | apply ct_left))  :
    Fn Try.prog 41 #[.pointer (some ⟨d, 0, none⟩)] A (fun r B => r = .int .i64 s.ops ∧ A = B) := by
  obtain ⟨rfl, hC⟩ := hc
  exact OpsD_f

theorem Off_c {A R : SP} {C : SP → SP} {d : Nat} {s : DevS} (hc : Ct A (Dev d s) R C := by repeat (first | with_reducible exact ct_here | apply ct_left))  :
    Fn Try.prog 31 #[.pointer (some ⟨d, 0, none⟩)] A (fun r B => r = .bool s.off ∧ A = B) := by
  obtain ⟨rfl, hC⟩ := hc
  exact OffD_f

theorem Store8_c {A R : SP} {C : SP → SP} {d : Nat} {s : DevS} (hc : Ct A (Dev d s) R C := by repeat (first | with_reducible exact ct_here | apply ct_left)) {v : Nat} {p : Int} (hp : -9223372036854775808 ≤ p ∧ p ≤ 9223372036854775807 := by omega) (hv : v < 18446744073709551616 := by omega) (hroom : Room 1 s := by assumption) :
    Fn Try.prog 40 #[.pointer (some ⟨d, 0, none⟩), .int .i64 p, .int .u64 (v : Nat)] A (fun r B => ∃ e s2, st8 p v s = (e, s2) ∧ r = .int .i64 e ∧ B = C (Dev d s2)) := by
  obtain ⟨rfl, hC⟩ := hc
  exact (Store8_f R d v p s hp hv hroom).mono fun _ _ h => ⟨(st8 p v s).1, (st8 p v s).2, rfl, h.1, by rw [hC]; exact h.2⟩

theorem Flush_c {A R : SP} {C : SP → SP} {d : Nat} {s : DevS} (hc : Ct A (Dev d s) R C := by repeat (first | with_reducible exact ct_here | apply ct_left)) {p : Int} (hp : -9223372036854775808 ≤ p ∧ p ≤ 9223372036854775807 := by omega) :
    Fn Try.prog 87 #[.pointer (some ⟨d, 0, none⟩), .int .i64 p] A (fun r B => ∃ e s2, fl1 p s = (e, s2) ∧ r = .int .i64 e ∧ B = C (Dev d s2)) := by
  obtain ⟨rfl, hC⟩ := hc
  exact (Flush_f R d p s hp).mono fun _ _ h => ⟨(fl1 p s).1, (fl1 p s).2, rfl, h.1, by rw [hC]; exact h.2⟩

theorem Fence_c {A R : SP} {C : SP → SP} {d : Nat} {s : DevS} (hc : Ct A (Dev d s) R C := by repeat (first | with_reducible exact ct_here | apply ct_left))  :
    Fn Try.prog 47 #[.pointer (some ⟨d, 0, none⟩)] A (fun r B => ∃ e s2, fe s = (e, s2) ∧ r = .int .i64 e ∧ B = C (Dev d s2)) := by
  obtain ⟨rfl, hC⟩ := hc
  exact (Fence_f R d s).mono fun _ _ h => ⟨(fe s).1, (fe s).2, rfl, h.1, by rw [hC]; exact h.2⟩

theorem Wake_c {A R : SP} {C : SP → SP} {d : Nat} {s : DevS} (hc : Ct A (Dev d s) R C := by repeat (first | with_reducible exact ct_here | apply ct_left))  :
    Fn Try.prog 32 #[.pointer (some ⟨d, 0, none⟩)] A (fun r B => r = .int .i64 (if s.off then 0 else 3) ∧ B = C (Dev d { s with off := false })) := by
  obtain ⟨rfl, hC⟩ := hc
  exact (Wake_f R d s).mono fun _ _ h => ⟨h.1, by rw [hC]; exact h.2⟩


/-- What Crash answers, and the device behind it. -/
def crS (keep : List Int) (s : DevS) : Int × DevS := if s.off then (5, s) else if lowB keep then (2, s) else (0, goesS keep s)

theorem Crash_c {A R : SP} {C : SP → SP} {d : Nat} {s : DevS} (hc : Ct A (Dev d s) R C := by repeat (first | with_reducible exact ct_here | apply ct_left)) {a : Option Addr} {c m : Nat} {keep : List Int} (hr : Rs R a (ints keep) := by repeat (first | assumption | with_reducible exact rs_sl | with_reducible exact rs_pt0 | exact rs_none | apply Rs.left)) (hk : ∀ k ∈ keep, k ≤ 9223372036854775807 := by assumption) (hm : keep.length = m := by assumption) (hkl : m ≤ 17592186044416 := by omega) :
    Fn Try.prog 28 #[.pointer (some ⟨d, 0, none⟩), .slice a m c] A (fun r B => ∃ e s2, crS keep s = (e, s2) ∧ r = .int .i64 e ∧ B = C (Dev d s2)) := by
  obtain ⟨rfl, hC⟩ := hc
  subst hm
  refine fn_have (p := Rd R a (ints keep)) (fun _ _ h => hr.rd h.left) fun hr => ?_
  exact (Crash_f R d c s a keep hr hk hkl).mono fun _ _ h => by
    refine ⟨(crS keep s).1, (crS keep s).2, rfl, ?_⟩
    rw [h.1, h.2, hC]; unfold crS
    by_cases h1 : s.off = true
    · simp [h1]
    · by_cases h2 : lowB keep = true <;> simp [h1, h2]

theorem ready_c {A R : SP} {C : SP → SP} {d : Nat} {s : DevS} (hc : Ct A (Dev d s) R C := by repeat (first | with_reducible exact ct_here | apply ct_left)) {p m : Int} (hp : -9223372036854775808 ≤ p ∧ p ≤ 9223372036854775807 := by omega) (hm : -9223372036854775808 ≤ m ∧ m ≤ 9223372036854775807 := by omega) :
    Fn Try.prog 88 #[.pointer (some ⟨d, 0, none⟩), .int .i64 p, .int .i64 m] A (fun r B => r = .int .i64 (rdy s.ls.length s.off p m) ∧ A = B) := by
  obtain ⟨rfl, hC⟩ := hc
  exact fn_devR0 fun _ A bl svs av hR => ready_f A d bl s.ls.length s av hR.d hR.wf.pos hR.wf.top p m hp hm

theorem lay_c {A R : SP} {C : SP → SP} {d : Nat} {s : DevS} (hc : Ct A (Dev d s) R C := by repeat (first | with_reducible exact ct_here | apply ct_left)) {p v : Nat} (hat : p / 64 < s.ls.length := by omega) (hv : v < 18446744073709551616 := by omega) (hroom : Room 1 s := by assumption) :
    Fn Try.prog 97 #[.pointer (some ⟨d, 0, none⟩), .int .i64 (p : Nat), .int .u64 (v : Nat)] A (fun r B => r = .int .i64 (doneE (layS p v s)) ∧ B = C (Dev d (doneS (layS p v s)))) := by
  obtain ⟨rfl, hC⟩ := hc
  exact (lay_f R d p v s hat hv hroom).mono fun _ _ h => ⟨h.1, by rw [hC]; exact h.2⟩

theorem Image_c {A R : SP} {C : SP → SP} {d : Nat} {s : DevS} (hc : Ct A (Dev d s) R C := by repeat (first | with_reducible exact ct_here | apply ct_left))  :
    Fn Try.prog 33 #[.pointer (some ⟨d, 0, none⟩)] A (fun r B => ∃ a c, r = .slice a (s.ls.length * 64) c ∧ s.ls.length * 64 ≤ c ∧ B = A * Sl 1 (.slice a (s.ls.length * 64) c) (s.ls.length * 64) (bys (imgS s))) := by
  obtain ⟨rfl, hC⟩ := hc
  exact fn_sl (ImageD_f.mono fun _ _ ⟨X, h, e⟩ => by rw [h, e])

theorem Load_c {A R : SP} {C : SP → SP} {d : Nat} {s : DevS} (hc : Ct A (Dev d s) R C := by repeat (first | with_reducible exact ct_here | apply ct_left)) {p m : Nat} (hoff : s.off = false := by assumption) (hpm : p + m ≤ s.ls.length * 64 := by omega) :
    Fn Try.prog 27 #[.pointer (some ⟨d, 0, none⟩), .int .i64 (p : Nat), .int .i64 (m : Nat)] A (fun r B => ∃ a c, r = .tuple #[.slice a m c, .int .i64 0] ∧ m ≤ c ∧ B = A * Sl 1 (.slice a m c) m (bys (((imgS s).drop p).take m))) := by
  obtain ⟨rfl, hC⟩ := hc
  refine fun g w hs => (LoadD_f (F := R) (d := d) hoff hpm rfl g w hs).mono ?_
  rintro e w' ⟨v, B, rfl, ⟨X, rfl, u, rfl, rfl⟩, hB⟩
  obtain ⟨a, c, rfl, h1, _⟩ := sl_have hB
  exact ⟨_, _, rfl, ⟨a, c, rfl, h1, rfl⟩, hB⟩


theorem LoadNo_c {A R : SP} {C : SP → SP} {d : Nat} {s : DevS} (hc : Ct A (Dev d s) R C := by repeat (first | with_reducible exact ct_here | apply ct_left)) {p m : Int} (hp : -9223372036854775808 ≤ p ∧ p ≤ 9223372036854775807 := by omega) (hm : -9223372036854775808 ≤ m ∧ m ≤ 9223372036854775807 := by omega) (hno : rdy s.ls.length s.off p m ≠ 0 := by assumption) :
    Fn Try.prog 27 #[.pointer (some ⟨d, 0, none⟩), .int .i64 p, .int .i64 m] A (fun r B => r = .tuple #[.slice none 0 0, .int .i64 (rdy s.ls.length s.off p m)] ∧ A = B) := by
  obtain ⟨rfl, hC⟩ := hc
  exact fn_devR0 fun _ A bl svs av hR => LoadNo_f A d bl svs av s hR p m hp hm hno

theorem Contents_c {A R : SP} {C : SP → SP} {d : Nat} {s : DevS} (hc : Ct A (Dev d s) R C := by repeat (first | with_reducible exact ct_here | apply ct_left)) {q : Nat} (hq : q < s.ls.length := by omega) :
    Fn Try.prog 35 #[.pointer (some ⟨d, 0, none⟩), .int .i64 (q : Nat)] A (fun r B => ∃ a c vs, r = .slice a (ctS q s).length c ∧ (ctS q s).length ≤ c ∧ B = A * Parts vs (ctS q s) * Sl 1 (.slice a (ctS q s).length c) (ctS q s).length vs) := by
  obtain ⟨rfl, hC⟩ := hc
  refine fun g w hs => (ContentsD_f (F := R) (d := d) hq g w hs).mono ?_
  rintro e w' ⟨v, B, rfl, ⟨X, rfl, vs, rfl⟩, hB⟩
  rw [← star_assoc] at hB
  obtain ⟨a, c, rfl, h1, _⟩ := sl_have hB
  exact ⟨_, _, rfl, ⟨a, c, vs, rfl, h1, rfl⟩, hB⟩


theorem ContentsNo_c {A R : SP} {C : SP → SP} {d : Nat} {s : DevS} (hc : Ct A (Dev d s) R C := by repeat (first | with_reducible exact ct_here | apply ct_left)) {p : Int} (hp : -9223372036854775808 ≤ p ∧ p ≤ 9223372036854775807 := by omega) (hno : p < 0 ∨ (s.ls.length : Int) ≤ p := by omega) :
    Fn Try.prog 35 #[.pointer (some ⟨d, 0, none⟩), .int .i64 p] A (fun r B => r = .slice none 0 0 ∧ A = B) := by
  obtain ⟨rfl, hC⟩ := hc
  exact fn_devR0 fun _ A bl svs av hR => ContentsNo_f A d bl svs av s hR p hp hno
theorem New_c {A : SP} {n : Nat} {v : Int} (hv : v = ((n * 64 : Nat) : Int) := by omega) (hn : 0 < n := by omega) (hn2 : n ≤ 65536 := by omega) : Fn Try.prog 51 #[.int .i64 v] A (fun r B => ∃ d, r = .tuple #[.pointer (some ⟨d, 0, none⟩), .int .i64 0] ∧ B = A * Dev d (newS n)) := by
  subst hv; exact New_f A n hn hn2
theorem NewNo_c {A : SP} {p : Int} (hno : fitsB p = false := by assumption) (hp : -9223372036854775808 ≤ p ∧ p ≤ 9223372036854775807 := by omega) : Fn Try.prog 51 #[.int .i64 p] A (fun r B => r = .tuple #[.pointer none, .int .i64 80] ∧ A = B) := NewNo_f A p hp hno


theorem CopyInts_c {A : SP} {a : Option Addr} {c m : Nat} {xs : List Int} (hr : Rs A a (ints xs) := by repeat (first | assumption | with_reducible exact rs_sl | with_reducible exact rs_pt0 | exact rs_none | apply Rs.left)) (hm : xs.length = m := by first | assumption | rfl) (hl : m ≤ 17592186044416 := by omega) :
    Fn Try.prog 29 #[.slice a m c] A (fun r B => ∃ a' c', r = .slice a' m c' ∧ m ≤ c' ∧ B = A * Sl 1 (.slice a' m c') m (ints xs)) := by
  subst hm; exact fn_rs hr fun hr => fn_sl (CopyInts_f A a c xs hr hl)
theorem CopyBytes_c {A : SP} {a : Option Addr} {c m : Nat} {xs : List Nat} (hr : Rs A a (bys xs) := by repeat (first | assumption | with_reducible exact rs_sl | with_reducible exact rs_pt0 | exact rs_none | apply Rs.left)) (hm : xs.length = m := by first | assumption | rfl) (hl : m ≤ 140737488351232 := by omega) :
    Fn Try.prog 39 #[.slice a m c] A (fun r B => ∃ a' c', r = .slice a' m c' ∧ m ≤ c' ∧ B = A * Sl 1 (.slice a' m c') m (bys xs)) := by
  subst hm; exact fn_rs hr fun hr => fn_sl (CopyBytes_f A a c xs hr hl)
theorem EqBytes_c {A : SP} {a1 a2 : Option Addr} {c1 c2 n m : Nat} {xs ys : List Nat} (h1 : Rs A a1 (bys xs) := by repeat (first | assumption | with_reducible exact rs_sl | with_reducible exact rs_pt0 | exact rs_none | apply Rs.left)) (h2 : Rs A a2 (bys ys) := by repeat (first | assumption | with_reducible exact rs_sl | with_reducible exact rs_pt0 | exact rs_none | apply Rs.left)) (hx : xs.length = n := by first | assumption | rfl) (hy : ys.length = m := by first | assumption | rfl) (hn : n ≤ 4611686018427387904 := by omega) (hm : m ≤ 4611686018427387904 := by omega) :
    Fn Try.prog 22 #[.slice a1 n c1, .slice a2 m c2] A (fun r B => r = .bool (decide (xs = ys)) ∧ A = B) := by
  subst hx hy; exact fn_rs h1 fun h1 => fn_rs h2 fun h2 => EqBytes_f A a1 a2 c1 c2 xs ys h1 h2 hn hm
theorem number_c {A : SP} {a : Option Addr} {m c : Nat} {xs : List Nat} (hr : Rs A a (bys xs) := by repeat (first | assumption | with_reducible exact rs_sl | with_reducible exact rs_pt0 | exact rs_none | apply Rs.left)) (hm : xs.length = m := by first | assumption | rfl) (hb : ∀ x ∈ xs, x < 256 := by assumption) (h8 : 8 ≤ m := by omega) :
    Fn Try.prog 34 #[.slice a m c] A (fun r B => r = .int .u64 ((nm (xs.take 8) : Nat) : Int) ∧ A = B) := fn_rs hr fun hr => number_f A a m c xs hm hb hr h8
theorem within_c {A : SP} {i n : Int} (hn : 0 < n ∧ n ≤ 9223372036854775807 := by omega) : Fn Try.prog 37 #[.int .i64 i, .int .i64 n] A (fun r B => r = .int .i64 (i % n) ∧ A = B) := within_f A i n hn
theorem awake_c {A : SP} : Fn Try.prog 25 #[] A (fun r B => r = .bool true ∧ A = B) := (awake_f A).mono fun _ _ h => ⟨h.1, h.2.symm⟩
theorem good_c {A : SP} {a : Option Addr} {c m : Nat} {xs : List Int} (hr : Rs A a (ints xs) := by repeat (first | assumption | with_reducible exact rs_sl | with_reducible exact rs_pt0 | exact rs_none | apply Rs.left)) (hm : xs.length = m := by first | assumption | rfl) (hl : m ≤ 1099511627776000 := by omega) : Fn Try.prog 30 #[.slice a m c] A (fun r B => r = .bool (!lowB xs) ∧ A = B) := by
  subst hm; exact fn_rs hr fun hr => good_f A a c xs hr hl
theorem Take64_c {A : SP} {a : Option Addr} {c m : Nat} {xs : List Nat} {p : Nat} (hr : Rs A a (bys xs) := by repeat (first | assumption | with_reducible exact rs_sl | with_reducible exact rs_pt0 | exact rs_none | apply Rs.left)) (hb : ∀ x ∈ xs, x < 256 := by assumption) (hm : xs.length = m := by first | assumption | rfl) (hp : p + 8 ≤ m := by omega) (hl : m ≤ 1099511627776 := by omega) :
    Fn Try.prog 98 #[.slice a m c, .int .i64 (p : Nat)] A (fun r B => r = .tuple #[.int .u64 ((nm ((xs.drop p).take 8) : Nat) : Int), .int .i64 0] ∧ A = B) := by
  subst hm; exact fn_rs hr fun hr => Take64_f A a c xs p hb hr hp hl
theorem Put64_c {A : SP} {a : Option Addr} {c m : Nat} {xs : List Nat} {v : Nat} (hr : Rs A a (bys xs) := by repeat (first | assumption | with_reducible exact rs_sl | with_reducible exact rs_pt0 | exact rs_none | apply Rs.left)) (hm : xs.length = m := by first | assumption | rfl) (hv : v < 18446744073709551616 := by omega) (hl : m ≤ 1099511627776 := by omega) :
    Fn Try.prog 99 #[.slice a m c, .int .u64 (v : Nat)] A (fun r B => ∃ a' c', r = .slice a' (m + 8) c' ∧ m + 8 ≤ c' ∧ B = A * Sl 1 (.slice a' (m + 8) c') (m + 8) (bys (xs ++ le 8 v))) := by
  subst hm; exact fn_rs hr fun hr => fn_sl ((Put64_f A a c xs v hr hv hl).mono fun _ _ ⟨u, e, h⟩ => by rw [e]; exact h)

end Go.Vl
