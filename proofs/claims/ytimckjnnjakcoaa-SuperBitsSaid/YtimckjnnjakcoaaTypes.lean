/- Facts on the programs types and functions, each by the kernels own reckoning. Conditions: none. -/
import Derived.Test.YtimckjnnjakcoaaCall
import Derived.Test.YtimckjnnjakcoaaProg
namespace Go.Vl
open Go.Proofs
theorem sz1 : szE Try.prog 1 = some 1 := by kernel_rfl
theorem by1 : bytesE Try.prog 1 = some 8 := by kernel_rfl
theorem p1 : plainE Try.prog 1 = true := by kernel_rfl
theorem z1 : zeroE Try.prog 1 = some (.nilFunc) := by kernel_rfl
theorem sz2 : szE Try.prog 2 = some 1 := by kernel_rfl
theorem by2 : bytesE Try.prog 2 = some 8 := by kernel_rfl
theorem p2 : plainE Try.prog 2 = true := by kernel_rfl
theorem z2 : zeroE Try.prog 2 = some (.int .i64 0) := by kernel_rfl
theorem sz3 : szE Try.prog 3 = some 1 := by kernel_rfl
theorem by3 : bytesE Try.prog 3 = some 8 := by kernel_rfl
theorem p3 : plainE Try.prog 3 = true := by kernel_rfl
theorem z3 : zeroE Try.prog 3 = some (.int .i64 0) := by kernel_rfl
theorem sz4 : szE Try.prog 4 = some 1 := by kernel_rfl
theorem by4 : bytesE Try.prog 4 = some 1 := by kernel_rfl
theorem p4 : plainE Try.prog 4 = true := by kernel_rfl
theorem z4 : zeroE Try.prog 4 = some (.bool false) := by kernel_rfl
theorem sz5 : szE Try.prog 5 = some 1 := by kernel_rfl
theorem by5 : bytesE Try.prog 5 = some 1 := by kernel_rfl
theorem p5 : plainE Try.prog 5 = true := by kernel_rfl
theorem z5 : zeroE Try.prog 5 = some (.int .u8 0) := by kernel_rfl
theorem sz6 : szE Try.prog 6 = some 1 := by kernel_rfl
theorem by6 : bytesE Try.prog 6 = some 1 := by kernel_rfl
theorem p6 : plainE Try.prog 6 = true := by kernel_rfl
theorem z6 : zeroE Try.prog 6 = some (.int .u8 0) := by kernel_rfl
theorem sz7 : szE Try.prog 7 = some 4 := by kernel_rfl
theorem by7 : bytesE Try.prog 7 = some 24 := by kernel_rfl
theorem a7 : aggE Try.prog 7 = true := by kernel_rfl
theorem z7 : zeroE Try.prog 7 = some (.agg [.int .i64 0, .int .i64 0, .bool false, .int .u8 0].toArray) := by kernel_rfl
theorem pl7 {fs : Array Field} (h : Try.prog.underlying 7 = some (.struct fs)) (w : World) : (fs.mapM fun f => do pure (f.offset, ← sizeOf f.type) : Sem (Array (Nat × Nat))).run Try.prog w = .ok [(0, 1), (1, 1), (2, 1), (3, 1)].toArray w :=
  run_places (by rw [Try.underlying7] at h; cases h; kernel_rfl) w
theorem sz8 : szE Try.prog 8 = some 4 := by kernel_rfl
theorem by8 : bytesE Try.prog 8 = some 24 := by kernel_rfl
theorem a8 : aggE Try.prog 8 = true := by kernel_rfl
theorem z8 : zeroE Try.prog 8 = some (.agg [.int .i64 0, .int .i64 0, .bool false, .int .u8 0].toArray) := by kernel_rfl
theorem pl8 {fs : Array Field} (h : Try.prog.underlying 8 = some (.struct fs)) (w : World) : (fs.mapM fun f => do pure (f.offset, ← sizeOf f.type) : Sem (Array (Nat × Nat))).run Try.prog w = .ok [(0, 1), (1, 1), (2, 1), (3, 1)].toArray w :=
  run_places (by rw [Try.underlying8] at h; cases h; kernel_rfl) w
theorem sz9 : szE Try.prog 9 = some 1 := by kernel_rfl
theorem by9 : bytesE Try.prog 9 = some 16 := by kernel_rfl
theorem p9 : plainE Try.prog 9 = true := by kernel_rfl
theorem z9 : zeroE Try.prog 9 = some (.string ⟨#[]⟩) := by kernel_rfl
theorem sz10 : szE Try.prog 10 = some 1 := by kernel_rfl
theorem by10 : bytesE Try.prog 10 = some 16 := by kernel_rfl
theorem p10 : plainE Try.prog 10 = true := by kernel_rfl
theorem z10 : zeroE Try.prog 10 = some (.string ⟨#[]⟩) := by kernel_rfl
theorem sz11 : szE Try.prog 11 = some 1 := by kernel_rfl
theorem by11 : bytesE Try.prog 11 = some 16 := by kernel_rfl
theorem p11 : plainE Try.prog 11 = true := by kernel_rfl
theorem z11 : zeroE Try.prog 11 = some (.string ⟨#[]⟩) := by kernel_rfl
theorem sz12 : szE Try.prog 12 = some 1 := by kernel_rfl
theorem by12 : bytesE Try.prog 12 = some 8 := by kernel_rfl
theorem p12 : plainE Try.prog 12 = true := by kernel_rfl
theorem z12 : zeroE Try.prog 12 = some (.int .u64 0) := by kernel_rfl
theorem sz13 : szE Try.prog 13 = some 2 := by kernel_rfl
theorem by13 : bytesE Try.prog 13 = some 24 := by kernel_rfl
theorem a13 : aggE Try.prog 13 = true := by kernel_rfl
theorem z13 : zeroE Try.prog 13 = some (.agg [.string ⟨#[]⟩, .int .u64 0].toArray) := by kernel_rfl
theorem pl13 {fs : Array Field} (h : Try.prog.underlying 13 = some (.struct fs)) (w : World) : (fs.mapM fun f => do pure (f.offset, ← sizeOf f.type) : Sem (Array (Nat × Nat))).run Try.prog w = .ok [(0, 1), (1, 1)].toArray w :=
  run_places (by rw [Try.underlying13] at h; cases h; kernel_rfl) w
theorem sz14 : szE Try.prog 14 = some 2 := by kernel_rfl
theorem by14 : bytesE Try.prog 14 = some 24 := by kernel_rfl
theorem a14 : aggE Try.prog 14 = true := by kernel_rfl
theorem z14 : zeroE Try.prog 14 = some (.agg [.string ⟨#[]⟩, .int .u64 0].toArray) := by kernel_rfl
theorem pl14 {fs : Array Field} (h : Try.prog.underlying 14 = some (.struct fs)) (w : World) : (fs.mapM fun f => do pure (f.offset, ← sizeOf f.type) : Sem (Array (Nat × Nat))).run Try.prog w = .ok [(0, 1), (1, 1)].toArray w :=
  run_places (by rw [Try.underlying14] at h; cases h; kernel_rfl) w
theorem sz15 : szE Try.prog 15 = some 1 := by kernel_rfl
theorem by15 : bytesE Try.prog 15 = some 8 := by kernel_rfl
theorem p15 : plainE Try.prog 15 = true := by kernel_rfl
theorem z15 : zeroE Try.prog 15 = some (.pointer none) := by kernel_rfl
theorem sz16 : szE Try.prog 16 = some 1 := by kernel_rfl
theorem by16 : bytesE Try.prog 16 = some 8 := by kernel_rfl
theorem p16 : plainE Try.prog 16 = true := by kernel_rfl
theorem z16 : zeroE Try.prog 16 = some (.pointer none) := by kernel_rfl
theorem sz17 : szE Try.prog 17 = some 1 := by kernel_rfl
theorem by17 : bytesE Try.prog 17 = some 8 := by kernel_rfl
theorem p17 : plainE Try.prog 17 = true := by kernel_rfl
theorem z17 : zeroE Try.prog 17 = some (.pointer none) := by kernel_rfl
theorem sz18 : szE Try.prog 18 = some 1 := by kernel_rfl
theorem by18 : bytesE Try.prog 18 = some 8 := by kernel_rfl
theorem a18 : aggE Try.prog 18 = true := by kernel_rfl
theorem z18 : zeroE Try.prog 18 = some (.agg [.pointer none].toArray) := by kernel_rfl
theorem pl18 {fs : Array Field} (h : Try.prog.underlying 18 = some (.struct fs)) (w : World) : (fs.mapM fun f => do pure (f.offset, ← sizeOf f.type) : Sem (Array (Nat × Nat))).run Try.prog w = .ok [(0, 1)].toArray w :=
  run_places (by rw [Try.underlying18] at h; cases h; kernel_rfl) w
theorem sz19 : szE Try.prog 19 = some 1 := by kernel_rfl
theorem by19 : bytesE Try.prog 19 = some 8 := by kernel_rfl
theorem a19 : aggE Try.prog 19 = true := by kernel_rfl
theorem z19 : zeroE Try.prog 19 = some (.agg [.pointer none].toArray) := by kernel_rfl
theorem pl19 {fs : Array Field} (h : Try.prog.underlying 19 = some (.struct fs)) (w : World) : (fs.mapM fun f => do pure (f.offset, ← sizeOf f.type) : Sem (Array (Nat × Nat))).run Try.prog w = .ok [(0, 1)].toArray w :=
  run_places (by rw [Try.underlying19] at h; cases h; kernel_rfl) w
theorem sz20 : szE Try.prog 20 = some 1 := by kernel_rfl
theorem by20 : bytesE Try.prog 20 = some 16 := by kernel_rfl
theorem p20 : plainE Try.prog 20 = true := by kernel_rfl
theorem z20 : zeroE Try.prog 20 = some (.nilIface) := by kernel_rfl
theorem sz21 : szE Try.prog 21 = some 1 := by kernel_rfl
theorem by21 : bytesE Try.prog 21 = some 4 := by kernel_rfl
theorem p21 : plainE Try.prog 21 = true := by kernel_rfl
theorem z21 : zeroE Try.prog 21 = some (.int .i32 0) := by kernel_rfl
theorem sz22 : szE Try.prog 22 = some 5 := by kernel_rfl
theorem by22 : bytesE Try.prog 22 = some 40 := by kernel_rfl
theorem a22 : aggE Try.prog 22 = true := by kernel_rfl
theorem z22 : zeroE Try.prog 22 = some (.agg [.int .i64 0, .int .i64 0, .int .i64 0, .int .i64 0, .int .i64 0].toArray) := by kernel_rfl
theorem pl22 {fs : Array Field} (h : Try.prog.underlying 22 = some (.struct fs)) (w : World) : (fs.mapM fun f => do pure (f.offset, ← sizeOf f.type) : Sem (Array (Nat × Nat))).run Try.prog w = .ok [(0, 1), (1, 1), (2, 1), (3, 1), (4, 1)].toArray w :=
  run_places (by rw [Try.underlying22] at h; cases h; kernel_rfl) w
theorem sz23 : szE Try.prog 23 = some 5 := by kernel_rfl
theorem by23 : bytesE Try.prog 23 = some 40 := by kernel_rfl
theorem a23 : aggE Try.prog 23 = true := by kernel_rfl
theorem z23 : zeroE Try.prog 23 = some (.agg [.int .i64 0, .int .i64 0, .int .i64 0, .int .i64 0, .int .i64 0].toArray) := by kernel_rfl
theorem pl23 {fs : Array Field} (h : Try.prog.underlying 23 = some (.struct fs)) (w : World) : (fs.mapM fun f => do pure (f.offset, ← sizeOf f.type) : Sem (Array (Nat × Nat))).run Try.prog w = .ok [(0, 1), (1, 1), (2, 1), (3, 1), (4, 1)].toArray w :=
  run_places (by rw [Try.underlying23] at h; cases h; kernel_rfl) w
theorem sz24 : szE Try.prog 24 = some 1 := by kernel_rfl
theorem by24 : bytesE Try.prog 24 = some 8 := by kernel_rfl
theorem p24 : plainE Try.prog 24 = true := by kernel_rfl
theorem z24 : zeroE Try.prog 24 = some (.int .i64 0) := by kernel_rfl
theorem sz26 : szE Try.prog 26 = some 1 := by kernel_rfl
theorem by26 : bytesE Try.prog 26 = some 8 := by kernel_rfl
theorem p26 : plainE Try.prog 26 = true := by kernel_rfl
theorem z26 : zeroE Try.prog 26 = some (.nilFunc) := by kernel_rfl
theorem sz27 : szE Try.prog 27 = some 1 := by kernel_rfl
theorem by27 : bytesE Try.prog 27 = some 24 := by kernel_rfl
theorem p27 : plainE Try.prog 27 = true := by kernel_rfl
theorem z27 : zeroE Try.prog 27 = some (.slice none 0 0) := by kernel_rfl
theorem sz28 : szE Try.prog 28 = some 1 := by kernel_rfl
theorem by28 : bytesE Try.prog 28 = some 24 := by kernel_rfl
theorem p28 : plainE Try.prog 28 = true := by kernel_rfl
theorem z28 : zeroE Try.prog 28 = some (.slice none 0 0) := by kernel_rfl
theorem sz30 : szE Try.prog 30 = some 1 := by kernel_rfl
theorem by30 : bytesE Try.prog 30 = some 8 := by kernel_rfl
theorem p30 : plainE Try.prog 30 = true := by kernel_rfl
theorem z30 : zeroE Try.prog 30 = some (.nilFunc) := by kernel_rfl
theorem sz31 : szE Try.prog 31 = some 1 := by kernel_rfl
theorem by31 : bytesE Try.prog 31 = some 8 := by kernel_rfl
theorem p31 : plainE Try.prog 31 = true := by kernel_rfl
theorem z31 : zeroE Try.prog 31 = some (.nilFunc) := by kernel_rfl
theorem sz32 : szE Try.prog 32 = some 1 := by kernel_rfl
theorem by32 : bytesE Try.prog 32 = some 8 := by kernel_rfl
theorem p32 : plainE Try.prog 32 = true := by kernel_rfl
theorem z32 : zeroE Try.prog 32 = some (.nilFunc) := by kernel_rfl
theorem sz33 : szE Try.prog 33 = some 1 := by kernel_rfl
theorem by33 : bytesE Try.prog 33 = some 24 := by kernel_rfl
theorem p33 : plainE Try.prog 33 = true := by kernel_rfl
theorem z33 : zeroE Try.prog 33 = some (.slice none 0 0) := by kernel_rfl
theorem sz34 : szE Try.prog 34 = some 1 := by kernel_rfl
theorem by34 : bytesE Try.prog 34 = some 8 := by kernel_rfl
theorem p34 : plainE Try.prog 34 = true := by kernel_rfl
theorem z34 : zeroE Try.prog 34 = some (.nilFunc) := by kernel_rfl
theorem sz35 : szE Try.prog 35 = some 1 := by kernel_rfl
theorem by35 : bytesE Try.prog 35 = some 8 := by kernel_rfl
theorem p35 : plainE Try.prog 35 = true := by kernel_rfl
theorem z35 : zeroE Try.prog 35 = some (.nilFunc) := by kernel_rfl
theorem sz36 : szE Try.prog 36 = some 1 := by kernel_rfl
theorem by36 : bytesE Try.prog 36 = some 24 := by kernel_rfl
theorem p36 : plainE Try.prog 36 = true := by kernel_rfl
theorem z36 : zeroE Try.prog 36 = some (.slice none 0 0) := by kernel_rfl
theorem sz37 : szE Try.prog 37 = some 1 := by kernel_rfl
theorem by37 : bytesE Try.prog 37 = some 24 := by kernel_rfl
theorem p37 : plainE Try.prog 37 = true := by kernel_rfl
theorem z37 : zeroE Try.prog 37 = some (.slice none 0 0) := by kernel_rfl
theorem sz38 : szE Try.prog 38 = some 1 := by kernel_rfl
theorem by38 : bytesE Try.prog 38 = some 8 := by kernel_rfl
theorem p38 : plainE Try.prog 38 = true := by kernel_rfl
theorem z38 : zeroE Try.prog 38 = some (.pointer none) := by kernel_rfl
theorem sz40 : szE Try.prog 40 = some 1 := by kernel_rfl
theorem by40 : bytesE Try.prog 40 = some 8 := by kernel_rfl
theorem p40 : plainE Try.prog 40 = true := by kernel_rfl
theorem z40 : zeroE Try.prog 40 = some (.nilFunc) := by kernel_rfl
theorem sz41 : szE Try.prog 41 = some 1 := by kernel_rfl
theorem by41 : bytesE Try.prog 41 = some 8 := by kernel_rfl
theorem p41 : plainE Try.prog 41 = true := by kernel_rfl
theorem z41 : zeroE Try.prog 41 = some (.pointer none) := by kernel_rfl
theorem sz42 : szE Try.prog 42 = some 1 := by kernel_rfl
theorem by42 : bytesE Try.prog 42 = some 24 := by kernel_rfl
theorem p42 : plainE Try.prog 42 = true := by kernel_rfl
theorem z42 : zeroE Try.prog 42 = some (.slice none 0 0) := by kernel_rfl
theorem sz43 : szE Try.prog 43 = some 1 := by kernel_rfl
theorem by43 : bytesE Try.prog 43 = some 24 := by kernel_rfl
theorem p43 : plainE Try.prog 43 = true := by kernel_rfl
theorem z43 : zeroE Try.prog 43 = some (.slice none 0 0) := by kernel_rfl
theorem sz44 : szE Try.prog 44 = some 1 := by kernel_rfl
theorem by44 : bytesE Try.prog 44 = some 24 := by kernel_rfl
theorem p44 : plainE Try.prog 44 = true := by kernel_rfl
theorem z44 : zeroE Try.prog 44 = some (.slice none 0 0) := by kernel_rfl
theorem sz45 : szE Try.prog 45 = some 6 := by kernel_rfl
theorem by45 : bytesE Try.prog 45 = some 128 := by kernel_rfl
theorem a45 : aggE Try.prog 45 = true := by kernel_rfl
theorem z45 : zeroE Try.prog 45 = some (.agg [.pointer none, .slice none 0 0, .slice none 0 0, .slice none 0 0, .slice none 0 0, .slice none 0 0].toArray) := by kernel_rfl
theorem pl45 {fs : Array Field} (h : Try.prog.underlying 45 = some (.struct fs)) (w : World) : (fs.mapM fun f => do pure (f.offset, ← sizeOf f.type) : Sem (Array (Nat × Nat))).run Try.prog w = .ok [(0, 1), (1, 1), (2, 1), (3, 1), (4, 1), (5, 1)].toArray w :=
  run_places (by rw [Try.underlying45] at h; cases h; kernel_rfl) w
theorem sz46 : szE Try.prog 46 = some 6 := by kernel_rfl
theorem by46 : bytesE Try.prog 46 = some 128 := by kernel_rfl
theorem a46 : aggE Try.prog 46 = true := by kernel_rfl
theorem z46 : zeroE Try.prog 46 = some (.agg [.pointer none, .slice none 0 0, .slice none 0 0, .slice none 0 0, .slice none 0 0, .slice none 0 0].toArray) := by kernel_rfl
theorem pl46 {fs : Array Field} (h : Try.prog.underlying 46 = some (.struct fs)) (w : World) : (fs.mapM fun f => do pure (f.offset, ← sizeOf f.type) : Sem (Array (Nat × Nat))).run Try.prog w = .ok [(0, 1), (1, 1), (2, 1), (3, 1), (4, 1), (5, 1)].toArray w :=
  run_places (by rw [Try.underlying46] at h; cases h; kernel_rfl) w
theorem sz47 : szE Try.prog 47 = some 1 := by kernel_rfl
theorem by47 : bytesE Try.prog 47 = some 8 := by kernel_rfl
theorem p47 : plainE Try.prog 47 = true := by kernel_rfl
theorem z47 : zeroE Try.prog 47 = some (.nilFunc) := by kernel_rfl
theorem sz48 : szE Try.prog 48 = some 1 := by kernel_rfl
theorem by48 : bytesE Try.prog 48 = some 8 := by kernel_rfl
theorem p48 : plainE Try.prog 48 = true := by kernel_rfl
theorem z48 : zeroE Try.prog 48 = some (.nilFunc) := by kernel_rfl
theorem sz49 : szE Try.prog 49 = some 1 := by kernel_rfl
theorem by49 : bytesE Try.prog 49 = some 8 := by kernel_rfl
theorem p49 : plainE Try.prog 49 = true := by kernel_rfl
theorem z49 : zeroE Try.prog 49 = some (.nilFunc) := by kernel_rfl
theorem sz50 : szE Try.prog 50 = some 1 := by kernel_rfl
theorem by50 : bytesE Try.prog 50 = some 8 := by kernel_rfl
theorem p50 : plainE Try.prog 50 = true := by kernel_rfl
theorem z50 : zeroE Try.prog 50 = some (.nilFunc) := by kernel_rfl
theorem sz51 : szE Try.prog 51 = some 1 := by kernel_rfl
theorem by51 : bytesE Try.prog 51 = some 8 := by kernel_rfl
theorem p51 : plainE Try.prog 51 = true := by kernel_rfl
theorem z51 : zeroE Try.prog 51 = some (.nilFunc) := by kernel_rfl
theorem sz52 : szE Try.prog 52 = some 1 := by kernel_rfl
theorem by52 : bytesE Try.prog 52 = some 8 := by kernel_rfl
theorem p52 : plainE Try.prog 52 = true := by kernel_rfl
theorem z52 : zeroE Try.prog 52 = some (.nilFunc) := by kernel_rfl
theorem sz53 : szE Try.prog 53 = some 1 := by kernel_rfl
theorem by53 : bytesE Try.prog 53 = some 8 := by kernel_rfl
theorem p53 : plainE Try.prog 53 = true := by kernel_rfl
theorem z53 : zeroE Try.prog 53 = some (.int .u64 0) := by kernel_rfl
theorem sz54 : szE Try.prog 54 = some 1 := by kernel_rfl
theorem by54 : bytesE Try.prog 54 = some 8 := by kernel_rfl
theorem p54 : plainE Try.prog 54 = true := by kernel_rfl
theorem z54 : zeroE Try.prog 54 = some (.nilFunc) := by kernel_rfl
theorem sz55 : szE Try.prog 55 = some 1 := by kernel_rfl
theorem by55 : bytesE Try.prog 55 = some 8 := by kernel_rfl
theorem p55 : plainE Try.prog 55 = true := by kernel_rfl
theorem z55 : zeroE Try.prog 55 = some (.nilFunc) := by kernel_rfl
theorem sz56 : szE Try.prog 56 = some 1 := by kernel_rfl
theorem by56 : bytesE Try.prog 56 = some 8 := by kernel_rfl
theorem p56 : plainE Try.prog 56 = true := by kernel_rfl
theorem z56 : zeroE Try.prog 56 = some (.nilFunc) := by kernel_rfl
theorem sz57 : szE Try.prog 57 = some 1 := by kernel_rfl
theorem by57 : bytesE Try.prog 57 = some 8 := by kernel_rfl
theorem p57 : plainE Try.prog 57 = true := by kernel_rfl
theorem z57 : zeroE Try.prog 57 = some (.nilFunc) := by kernel_rfl
theorem sz58 : szE Try.prog 58 = some 1 := by kernel_rfl
theorem by58 : bytesE Try.prog 58 = some 8 := by kernel_rfl
theorem p58 : plainE Try.prog 58 = true := by kernel_rfl
theorem z58 : zeroE Try.prog 58 = some (.nilFunc) := by kernel_rfl
theorem sz59 : szE Try.prog 59 = some 1 := by kernel_rfl
theorem by59 : bytesE Try.prog 59 = some 8 := by kernel_rfl
theorem p59 : plainE Try.prog 59 = true := by kernel_rfl
theorem z59 : zeroE Try.prog 59 = some (.nilFunc) := by kernel_rfl
theorem sz60 : szE Try.prog 60 = some 1 := by kernel_rfl
theorem by60 : bytesE Try.prog 60 = some 8 := by kernel_rfl
theorem p60 : plainE Try.prog 60 = true := by kernel_rfl
theorem z60 : zeroE Try.prog 60 = some (.nilFunc) := by kernel_rfl
theorem sz61 : szE Try.prog 61 = some 1 := by kernel_rfl
theorem by61 : bytesE Try.prog 61 = some 8 := by kernel_rfl
theorem p61 : plainE Try.prog 61 = true := by kernel_rfl
theorem z61 : zeroE Try.prog 61 = some (.nilFunc) := by kernel_rfl
theorem sz62 : szE Try.prog 62 = some 1 := by kernel_rfl
theorem by62 : bytesE Try.prog 62 = some 8 := by kernel_rfl
theorem p62 : plainE Try.prog 62 = true := by kernel_rfl
theorem z62 : zeroE Try.prog 62 = some (.nilFunc) := by kernel_rfl
theorem sz63 : szE Try.prog 63 = some 1 := by kernel_rfl
theorem by63 : bytesE Try.prog 63 = some 8 := by kernel_rfl
theorem p63 : plainE Try.prog 63 = true := by kernel_rfl
theorem z63 : zeroE Try.prog 63 = some (.nilFunc) := by kernel_rfl
theorem sz65 : szE Try.prog 65 = some 1 := by kernel_rfl
theorem by65 : bytesE Try.prog 65 = some 8 := by kernel_rfl
theorem p65 : plainE Try.prog 65 = true := by kernel_rfl
theorem z65 : zeroE Try.prog 65 = some (.nilFunc) := by kernel_rfl
theorem sz66 : szE Try.prog 66 = some 1 := by kernel_rfl
theorem by66 : bytesE Try.prog 66 = some 8 := by kernel_rfl
theorem p66 : plainE Try.prog 66 = true := by kernel_rfl
theorem z66 : zeroE Try.prog 66 = some (.nilFunc) := by kernel_rfl
theorem sz67 : szE Try.prog 67 = some 1 := by kernel_rfl
theorem by67 : bytesE Try.prog 67 = some 8 := by kernel_rfl
theorem p67 : plainE Try.prog 67 = true := by kernel_rfl
theorem z67 : zeroE Try.prog 67 = some (.nilFunc) := by kernel_rfl
theorem sz68 : szE Try.prog 68 = some 4 := by kernel_rfl
theorem by68 : bytesE Try.prog 68 = some 64 := by kernel_rfl
theorem a68 : aggE Try.prog 68 = true := by kernel_rfl
theorem z68 : zeroE Try.prog 68 = some (.agg [.int .i64 0, .slice none 0 0, .int .i64 0, .slice none 0 0].toArray) := by kernel_rfl
theorem pl68 {fs : Array Field} (h : Try.prog.underlying 68 = some (.struct fs)) (w : World) : (fs.mapM fun f => do pure (f.offset, ← sizeOf f.type) : Sem (Array (Nat × Nat))).run Try.prog w = .ok [(0, 1), (1, 1), (2, 1), (3, 1)].toArray w :=
  run_places (by rw [Try.underlying68] at h; cases h; kernel_rfl) w
theorem sz69 : szE Try.prog 69 = some 4 := by kernel_rfl
theorem by69 : bytesE Try.prog 69 = some 64 := by kernel_rfl
theorem a69 : aggE Try.prog 69 = true := by kernel_rfl
theorem z69 : zeroE Try.prog 69 = some (.agg [.int .i64 0, .slice none 0 0, .int .i64 0, .slice none 0 0].toArray) := by kernel_rfl
theorem pl69 {fs : Array Field} (h : Try.prog.underlying 69 = some (.struct fs)) (w : World) : (fs.mapM fun f => do pure (f.offset, ← sizeOf f.type) : Sem (Array (Nat × Nat))).run Try.prog w = .ok [(0, 1), (1, 1), (2, 1), (3, 1)].toArray w :=
  run_places (by rw [Try.underlying69] at h; cases h; kernel_rfl) w
theorem sz70 : szE Try.prog 70 = some 1 := by kernel_rfl
theorem by70 : bytesE Try.prog 70 = some 8 := by kernel_rfl
theorem p70 : plainE Try.prog 70 = true := by kernel_rfl
theorem z70 : zeroE Try.prog 70 = some (.nilFunc) := by kernel_rfl
theorem sz71 : szE Try.prog 71 = some 2 := by kernel_rfl
theorem by71 : bytesE Try.prog 71 = some 32 := by kernel_rfl
theorem a71 : aggE Try.prog 71 = true := by kernel_rfl
theorem z71 : zeroE Try.prog 71 = some (.agg [.int .i64 0, .slice none 0 0].toArray) := by kernel_rfl
theorem pl71 {fs : Array Field} (h : Try.prog.underlying 71 = some (.struct fs)) (w : World) : (fs.mapM fun f => do pure (f.offset, ← sizeOf f.type) : Sem (Array (Nat × Nat))).run Try.prog w = .ok [(0, 1), (1, 1)].toArray w :=
  run_places (by rw [Try.underlying71] at h; cases h; kernel_rfl) w
theorem sz72 : szE Try.prog 72 = some 2 := by kernel_rfl
theorem by72 : bytesE Try.prog 72 = some 32 := by kernel_rfl
theorem a72 : aggE Try.prog 72 = true := by kernel_rfl
theorem z72 : zeroE Try.prog 72 = some (.agg [.int .i64 0, .slice none 0 0].toArray) := by kernel_rfl
theorem pl72 {fs : Array Field} (h : Try.prog.underlying 72 = some (.struct fs)) (w : World) : (fs.mapM fun f => do pure (f.offset, ← sizeOf f.type) : Sem (Array (Nat × Nat))).run Try.prog w = .ok [(0, 1), (1, 1)].toArray w :=
  run_places (by rw [Try.underlying72] at h; cases h; kernel_rfl) w
theorem sz73 : szE Try.prog 73 = some 1 := by kernel_rfl
theorem by73 : bytesE Try.prog 73 = some 8 := by kernel_rfl
theorem p73 : plainE Try.prog 73 = true := by kernel_rfl
theorem z73 : zeroE Try.prog 73 = some (.nilFunc) := by kernel_rfl
theorem sz74 : szE Try.prog 74 = some 1 := by kernel_rfl
theorem by74 : bytesE Try.prog 74 = some 24 := by kernel_rfl
theorem p74 : plainE Try.prog 74 = true := by kernel_rfl
theorem z74 : zeroE Try.prog 74 = some (.slice none 0 0) := by kernel_rfl
theorem sz75 : szE Try.prog 75 = some 7 := by kernel_rfl
theorem by75 : bytesE Try.prog 75 = some 104 := by kernel_rfl
theorem a75 : aggE Try.prog 75 = true := by kernel_rfl
theorem z75 : zeroE Try.prog 75 = some (.agg [.int .i64 0, .int .i64 0, .int .i64 0, .int .u64 0, .slice none 0 0, .slice none 0 0, .slice none 0 0].toArray) := by kernel_rfl
theorem pl75 {fs : Array Field} (h : Try.prog.underlying 75 = some (.struct fs)) (w : World) : (fs.mapM fun f => do pure (f.offset, ← sizeOf f.type) : Sem (Array (Nat × Nat))).run Try.prog w = .ok [(0, 1), (1, 1), (2, 1), (3, 1), (4, 1), (5, 1), (6, 1)].toArray w :=
  run_places (by rw [Try.underlying75] at h; cases h; kernel_rfl) w
theorem sz76 : szE Try.prog 76 = some 7 := by kernel_rfl
theorem by76 : bytesE Try.prog 76 = some 104 := by kernel_rfl
theorem a76 : aggE Try.prog 76 = true := by kernel_rfl
theorem z76 : zeroE Try.prog 76 = some (.agg [.int .i64 0, .int .i64 0, .int .i64 0, .int .u64 0, .slice none 0 0, .slice none 0 0, .slice none 0 0].toArray) := by kernel_rfl
theorem pl76 {fs : Array Field} (h : Try.prog.underlying 76 = some (.struct fs)) (w : World) : (fs.mapM fun f => do pure (f.offset, ← sizeOf f.type) : Sem (Array (Nat × Nat))).run Try.prog w = .ok [(0, 1), (1, 1), (2, 1), (3, 1), (4, 1), (5, 1), (6, 1)].toArray w :=
  run_places (by rw [Try.underlying76] at h; cases h; kernel_rfl) w
theorem sz77 : szE Try.prog 77 = some 1 := by kernel_rfl
theorem by77 : bytesE Try.prog 77 = some 8 := by kernel_rfl
theorem p77 : plainE Try.prog 77 = true := by kernel_rfl
theorem z77 : zeroE Try.prog 77 = some (.nilFunc) := by kernel_rfl
theorem sz78 : szE Try.prog 78 = some 1 := by kernel_rfl
theorem by78 : bytesE Try.prog 78 = some 8 := by kernel_rfl
theorem p78 : plainE Try.prog 78 = true := by kernel_rfl
theorem z78 : zeroE Try.prog 78 = some (.nilFunc) := by kernel_rfl
theorem sz79 : szE Try.prog 79 = some 1 := by kernel_rfl
theorem by79 : bytesE Try.prog 79 = some 8 := by kernel_rfl
theorem p79 : plainE Try.prog 79 = true := by kernel_rfl
theorem z79 : zeroE Try.prog 79 = some (.nilFunc) := by kernel_rfl
theorem sz80 : szE Try.prog 80 = some 1 := by kernel_rfl
theorem by80 : bytesE Try.prog 80 = some 8 := by kernel_rfl
theorem p80 : plainE Try.prog 80 = true := by kernel_rfl
theorem z80 : zeroE Try.prog 80 = some (.nilFunc) := by kernel_rfl
theorem sz81 : szE Try.prog 81 = some 3 := by kernel_rfl
theorem by81 : bytesE Try.prog 81 = some 56 := by kernel_rfl
theorem a81 : aggE Try.prog 81 = true := by kernel_rfl
theorem z81 : zeroE Try.prog 81 = some (.agg [.int .i64 0, .slice none 0 0, .slice none 0 0].toArray) := by kernel_rfl
theorem pl81 {fs : Array Field} (h : Try.prog.underlying 81 = some (.struct fs)) (w : World) : (fs.mapM fun f => do pure (f.offset, ← sizeOf f.type) : Sem (Array (Nat × Nat))).run Try.prog w = .ok [(0, 1), (1, 1), (2, 1)].toArray w :=
  run_places (by rw [Try.underlying81] at h; cases h; kernel_rfl) w
theorem sz82 : szE Try.prog 82 = some 3 := by kernel_rfl
theorem by82 : bytesE Try.prog 82 = some 56 := by kernel_rfl
theorem a82 : aggE Try.prog 82 = true := by kernel_rfl
theorem z82 : zeroE Try.prog 82 = some (.agg [.int .i64 0, .slice none 0 0, .slice none 0 0].toArray) := by kernel_rfl
theorem pl82 {fs : Array Field} (h : Try.prog.underlying 82 = some (.struct fs)) (w : World) : (fs.mapM fun f => do pure (f.offset, ← sizeOf f.type) : Sem (Array (Nat × Nat))).run Try.prog w = .ok [(0, 1), (1, 1), (2, 1)].toArray w :=
  run_places (by rw [Try.underlying82] at h; cases h; kernel_rfl) w
theorem sz83 : szE Try.prog 83 = some 1 := by kernel_rfl
theorem by83 : bytesE Try.prog 83 = some 8 := by kernel_rfl
theorem p83 : plainE Try.prog 83 = true := by kernel_rfl
theorem z83 : zeroE Try.prog 83 = some (.pointer none) := by kernel_rfl
theorem sz85 : szE Try.prog 85 = some 1 := by kernel_rfl
theorem by85 : bytesE Try.prog 85 = some 8 := by kernel_rfl
theorem p85 : plainE Try.prog 85 = true := by kernel_rfl
theorem z85 : zeroE Try.prog 85 = some (.nilFunc) := by kernel_rfl
theorem sz86 : szE Try.prog 86 = some 1 := by kernel_rfl
theorem by86 : bytesE Try.prog 86 = some 8 := by kernel_rfl
theorem p86 : plainE Try.prog 86 = true := by kernel_rfl
theorem z86 : zeroE Try.prog 86 = some (.pointer none) := by kernel_rfl
theorem sz87 : szE Try.prog 87 = some 2 := by kernel_rfl
theorem by87 : bytesE Try.prog 87 = some 16 := by kernel_rfl
theorem a87 : aggE Try.prog 87 = true := by kernel_rfl
theorem z87 : zeroE Try.prog 87 = some (.agg [.pointer none, .pointer none].toArray) := by kernel_rfl
theorem pl87 {fs : Array Field} (h : Try.prog.underlying 87 = some (.struct fs)) (w : World) : (fs.mapM fun f => do pure (f.offset, ← sizeOf f.type) : Sem (Array (Nat × Nat))).run Try.prog w = .ok [(0, 1), (1, 1)].toArray w :=
  run_places (by rw [Try.underlying87] at h; cases h; kernel_rfl) w
theorem sz88 : szE Try.prog 88 = some 2 := by kernel_rfl
theorem by88 : bytesE Try.prog 88 = some 16 := by kernel_rfl
theorem a88 : aggE Try.prog 88 = true := by kernel_rfl
theorem z88 : zeroE Try.prog 88 = some (.agg [.pointer none, .pointer none].toArray) := by kernel_rfl
theorem pl88 {fs : Array Field} (h : Try.prog.underlying 88 = some (.struct fs)) (w : World) : (fs.mapM fun f => do pure (f.offset, ← sizeOf f.type) : Sem (Array (Nat × Nat))).run Try.prog w = .ok [(0, 1), (1, 1)].toArray w :=
  run_places (by rw [Try.underlying88] at h; cases h; kernel_rfl) w
theorem sz89 : szE Try.prog 89 = some 1 := by kernel_rfl
theorem by89 : bytesE Try.prog 89 = some 24 := by kernel_rfl
theorem p89 : plainE Try.prog 89 = true := by kernel_rfl
theorem z89 : zeroE Try.prog 89 = some (.slice none 0 0) := by kernel_rfl
theorem sz90 : szE Try.prog 90 = some 6 := by kernel_rfl
theorem by90 : bytesE Try.prog 90 = some 80 := by kernel_rfl
theorem a90 : aggE Try.prog 90 = true := by kernel_rfl
theorem z90 : zeroE Try.prog 90 = some (.agg [.int .i64 0, .slice none 0 0, .int .i64 0, .slice none 0 0, .int .i64 0, .bool false].toArray) := by kernel_rfl
theorem pl90 {fs : Array Field} (h : Try.prog.underlying 90 = some (.struct fs)) (w : World) : (fs.mapM fun f => do pure (f.offset, ← sizeOf f.type) : Sem (Array (Nat × Nat))).run Try.prog w = .ok [(0, 1), (1, 1), (2, 1), (3, 1), (4, 1), (5, 1)].toArray w :=
  run_places (by rw [Try.underlying90] at h; cases h; kernel_rfl) w
theorem sz91 : szE Try.prog 91 = some 6 := by kernel_rfl
theorem by91 : bytesE Try.prog 91 = some 80 := by kernel_rfl
theorem a91 : aggE Try.prog 91 = true := by kernel_rfl
theorem z91 : zeroE Try.prog 91 = some (.agg [.int .i64 0, .slice none 0 0, .int .i64 0, .slice none 0 0, .int .i64 0, .bool false].toArray) := by kernel_rfl
theorem pl91 {fs : Array Field} (h : Try.prog.underlying 91 = some (.struct fs)) (w : World) : (fs.mapM fun f => do pure (f.offset, ← sizeOf f.type) : Sem (Array (Nat × Nat))).run Try.prog w = .ok [(0, 1), (1, 1), (2, 1), (3, 1), (4, 1), (5, 1)].toArray w :=
  run_places (by rw [Try.underlying91] at h; cases h; kernel_rfl) w
theorem sz92 : szE Try.prog 92 = some 1 := by kernel_rfl
theorem by92 : bytesE Try.prog 92 = some 8 := by kernel_rfl
theorem p92 : plainE Try.prog 92 = true := by kernel_rfl
theorem z92 : zeroE Try.prog 92 = some (.nilFunc) := by kernel_rfl
theorem sz93 : szE Try.prog 93 = some 1 := by kernel_rfl
theorem by93 : bytesE Try.prog 93 = some 8 := by kernel_rfl
theorem p93 : plainE Try.prog 93 = true := by kernel_rfl
theorem z93 : zeroE Try.prog 93 = some (.nilFunc) := by kernel_rfl
theorem sz94 : szE Try.prog 94 = some 1 := by kernel_rfl
theorem by94 : bytesE Try.prog 94 = some 8 := by kernel_rfl
theorem p94 : plainE Try.prog 94 = true := by kernel_rfl
theorem z94 : zeroE Try.prog 94 = some (.nilFunc) := by kernel_rfl
theorem sz95 : szE Try.prog 95 = some 1 := by kernel_rfl
theorem by95 : bytesE Try.prog 95 = some 24 := by kernel_rfl
theorem p95 : plainE Try.prog 95 = true := by kernel_rfl
theorem z95 : zeroE Try.prog 95 = some (.slice none 0 0) := by kernel_rfl
theorem sz96 : szE Try.prog 96 = some 5 := by kernel_rfl
theorem by96 : bytesE Try.prog 96 = some 72 := by kernel_rfl
theorem a96 : aggE Try.prog 96 = true := by kernel_rfl
theorem z96 : zeroE Try.prog 96 = some (.agg [.slice none 0 0, .int .i64 0, .slice none 0 0, .int .i64 0, .bool false].toArray) := by kernel_rfl
theorem pl96 {fs : Array Field} (h : Try.prog.underlying 96 = some (.struct fs)) (w : World) : (fs.mapM fun f => do pure (f.offset, ← sizeOf f.type) : Sem (Array (Nat × Nat))).run Try.prog w = .ok [(0, 1), (1, 1), (2, 1), (3, 1), (4, 1)].toArray w :=
  run_places (by rw [Try.underlying96] at h; cases h; kernel_rfl) w
theorem sz97 : szE Try.prog 97 = some 5 := by kernel_rfl
theorem by97 : bytesE Try.prog 97 = some 72 := by kernel_rfl
theorem a97 : aggE Try.prog 97 = true := by kernel_rfl
theorem z97 : zeroE Try.prog 97 = some (.agg [.slice none 0 0, .int .i64 0, .slice none 0 0, .int .i64 0, .bool false].toArray) := by kernel_rfl
theorem pl97 {fs : Array Field} (h : Try.prog.underlying 97 = some (.struct fs)) (w : World) : (fs.mapM fun f => do pure (f.offset, ← sizeOf f.type) : Sem (Array (Nat × Nat))).run Try.prog w = .ok [(0, 1), (1, 1), (2, 1), (3, 1), (4, 1)].toArray w :=
  run_places (by rw [Try.underlying97] at h; cases h; kernel_rfl) w
theorem sz98 : szE Try.prog 98 = some 1 := by kernel_rfl
theorem by98 : bytesE Try.prog 98 = some 24 := by kernel_rfl
theorem p98 : plainE Try.prog 98 = true := by kernel_rfl
theorem z98 : zeroE Try.prog 98 = some (.slice none 0 0) := by kernel_rfl
theorem sz99 : szE Try.prog 99 = some 5 := by kernel_rfl
theorem by99 : bytesE Try.prog 99 = some 104 := by kernel_rfl
theorem a99 : aggE Try.prog 99 = true := by kernel_rfl
theorem z99 : zeroE Try.prog 99 = some (.agg [.slice none 0 0, .int .i64 0, .slice none 0 0, .slice none 0 0, .slice none 0 0].toArray) := by kernel_rfl
theorem pl99 {fs : Array Field} (h : Try.prog.underlying 99 = some (.struct fs)) (w : World) : (fs.mapM fun f => do pure (f.offset, ← sizeOf f.type) : Sem (Array (Nat × Nat))).run Try.prog w = .ok [(0, 1), (1, 1), (2, 1), (3, 1), (4, 1)].toArray w :=
  run_places (by rw [Try.underlying99] at h; cases h; kernel_rfl) w
theorem sz100 : szE Try.prog 100 = some 5 := by kernel_rfl
theorem by100 : bytesE Try.prog 100 = some 104 := by kernel_rfl
theorem a100 : aggE Try.prog 100 = true := by kernel_rfl
theorem z100 : zeroE Try.prog 100 = some (.agg [.slice none 0 0, .int .i64 0, .slice none 0 0, .slice none 0 0, .slice none 0 0].toArray) := by kernel_rfl
theorem pl100 {fs : Array Field} (h : Try.prog.underlying 100 = some (.struct fs)) (w : World) : (fs.mapM fun f => do pure (f.offset, ← sizeOf f.type) : Sem (Array (Nat × Nat))).run Try.prog w = .ok [(0, 1), (1, 1), (2, 1), (3, 1), (4, 1)].toArray w :=
  run_places (by rw [Try.underlying100] at h; cases h; kernel_rfl) w
theorem sz101 : szE Try.prog 101 = some 1 := by kernel_rfl
theorem by101 : bytesE Try.prog 101 = some 8 := by kernel_rfl
theorem p101 : plainE Try.prog 101 = true := by kernel_rfl
theorem z101 : zeroE Try.prog 101 = some (.nilFunc) := by kernel_rfl
theorem sz102 : szE Try.prog 102 = some 6 := by kernel_rfl
theorem by102 : bytesE Try.prog 102 = some 80 := by kernel_rfl
theorem a102 : aggE Try.prog 102 = true := by kernel_rfl
theorem z102 : zeroE Try.prog 102 = some (.agg [.int .i64 0, .int .i64 0, .int .i64 0, .slice none 0 0, .int .u64 0, .slice none 0 0].toArray) := by kernel_rfl
theorem pl102 {fs : Array Field} (h : Try.prog.underlying 102 = some (.struct fs)) (w : World) : (fs.mapM fun f => do pure (f.offset, ← sizeOf f.type) : Sem (Array (Nat × Nat))).run Try.prog w = .ok [(0, 1), (1, 1), (2, 1), (3, 1), (4, 1), (5, 1)].toArray w :=
  run_places (by rw [Try.underlying102] at h; cases h; kernel_rfl) w
theorem sz103 : szE Try.prog 103 = some 6 := by kernel_rfl
theorem by103 : bytesE Try.prog 103 = some 80 := by kernel_rfl
theorem a103 : aggE Try.prog 103 = true := by kernel_rfl
theorem z103 : zeroE Try.prog 103 = some (.agg [.int .i64 0, .int .i64 0, .int .i64 0, .slice none 0 0, .int .u64 0, .slice none 0 0].toArray) := by kernel_rfl
theorem pl103 {fs : Array Field} (h : Try.prog.underlying 103 = some (.struct fs)) (w : World) : (fs.mapM fun f => do pure (f.offset, ← sizeOf f.type) : Sem (Array (Nat × Nat))).run Try.prog w = .ok [(0, 1), (1, 1), (2, 1), (3, 1), (4, 1), (5, 1)].toArray w :=
  run_places (by rw [Try.underlying103] at h; cases h; kernel_rfl) w
theorem sz104 : szE Try.prog 104 = some 1 := by kernel_rfl
theorem by104 : bytesE Try.prog 104 = some 8 := by kernel_rfl
theorem p104 : plainE Try.prog 104 = true := by kernel_rfl
theorem z104 : zeroE Try.prog 104 = some (.nilFunc) := by kernel_rfl
theorem sz105 : szE Try.prog 105 = some 1 := by kernel_rfl
theorem by105 : bytesE Try.prog 105 = some 8 := by kernel_rfl
theorem p105 : plainE Try.prog 105 = true := by kernel_rfl
theorem z105 : zeroE Try.prog 105 = some (.nilFunc) := by kernel_rfl
theorem sz107 : szE Try.prog 107 = some 1 := by kernel_rfl
theorem by107 : bytesE Try.prog 107 = some 8 := by kernel_rfl
theorem p107 : plainE Try.prog 107 = true := by kernel_rfl
theorem z107 : zeroE Try.prog 107 = some (.nilFunc) := by kernel_rfl
theorem sz109 : szE Try.prog 109 = some 1 := by kernel_rfl
theorem by109 : bytesE Try.prog 109 = some 8 := by kernel_rfl
theorem a109 : aggE Try.prog 109 = true := by kernel_rfl
theorem z109 : zeroE Try.prog 109 = some (.agg [.int .i64 0].toArray) := by kernel_rfl
theorem pl109 {fs : Array Field} (h : Try.prog.underlying 109 = some (.struct fs)) (w : World) : (fs.mapM fun f => do pure (f.offset, ← sizeOf f.type) : Sem (Array (Nat × Nat))).run Try.prog w = .ok [(0, 1)].toArray w :=
  run_places (by rw [Try.underlying109] at h; cases h; kernel_rfl) w
theorem sz110 : szE Try.prog 110 = some 1 := by kernel_rfl
theorem by110 : bytesE Try.prog 110 = some 8 := by kernel_rfl
theorem a110 : aggE Try.prog 110 = true := by kernel_rfl
theorem z110 : zeroE Try.prog 110 = some (.agg [.int .i64 0].toArray) := by kernel_rfl
theorem pl110 {fs : Array Field} (h : Try.prog.underlying 110 = some (.struct fs)) (w : World) : (fs.mapM fun f => do pure (f.offset, ← sizeOf f.type) : Sem (Array (Nat × Nat))).run Try.prog w = .ok [(0, 1)].toArray w :=
  run_places (by rw [Try.underlying110] at h; cases h; kernel_rfl) w
theorem sz111 : szE Try.prog 111 = some 1 := by kernel_rfl
theorem by111 : bytesE Try.prog 111 = some 8 := by kernel_rfl
theorem p111 : plainE Try.prog 111 = true := by kernel_rfl
theorem z111 : zeroE Try.prog 111 = some (.nilFunc) := by kernel_rfl
theorem sz112 : szE Try.prog 112 = some 1 := by kernel_rfl
theorem by112 : bytesE Try.prog 112 = some 8 := by kernel_rfl
theorem a112 : aggE Try.prog 112 = true := by kernel_rfl
theorem z112 : zeroE Try.prog 112 = some (.agg [.int .i64 0].toArray) := by kernel_rfl
theorem pl112 {fs : Array Field} (h : Try.prog.underlying 112 = some (.struct fs)) (w : World) : (fs.mapM fun f => do pure (f.offset, ← sizeOf f.type) : Sem (Array (Nat × Nat))).run Try.prog w = .ok [(0, 1)].toArray w :=
  run_places (by rw [Try.underlying112] at h; cases h; kernel_rfl) w
theorem sz113 : szE Try.prog 113 = some 1 := by kernel_rfl
theorem by113 : bytesE Try.prog 113 = some 8 := by kernel_rfl
theorem p113 : plainE Try.prog 113 = true := by kernel_rfl
theorem z113 : zeroE Try.prog 113 = some (.nilFunc) := by kernel_rfl
theorem sz114 : szE Try.prog 114 = some 1 := by kernel_rfl
theorem by114 : bytesE Try.prog 114 = some 4 := by kernel_rfl
theorem p114 : plainE Try.prog 114 = true := by kernel_rfl
theorem z114 : zeroE Try.prog 114 = some (.int .u32 0) := by kernel_rfl
theorem sz115 : szE Try.prog 115 = some 1 := by kernel_rfl
theorem by115 : bytesE Try.prog 115 = some 8 := by kernel_rfl
theorem p115 : plainE Try.prog 115 = true := by kernel_rfl
theorem z115 : zeroE Try.prog 115 = some (.nilFunc) := by kernel_rfl
theorem sz116 : szE Try.prog 116 = some 1 := by kernel_rfl
theorem by116 : bytesE Try.prog 116 = some 8 := by kernel_rfl
theorem p116 : plainE Try.prog 116 = true := by kernel_rfl
theorem z116 : zeroE Try.prog 116 = some (.nilFunc) := by kernel_rfl
theorem sz117 : szE Try.prog 117 = some 1 := by kernel_rfl
theorem by117 : bytesE Try.prog 117 = some 8 := by kernel_rfl
theorem a117 : aggE Try.prog 117 = true := by kernel_rfl
theorem z117 : zeroE Try.prog 117 = some (.agg [.int .i64 0].toArray) := by kernel_rfl
theorem pl117 {fs : Array Field} (h : Try.prog.underlying 117 = some (.struct fs)) (w : World) : (fs.mapM fun f => do pure (f.offset, ← sizeOf f.type) : Sem (Array (Nat × Nat))).run Try.prog w = .ok [(0, 1)].toArray w :=
  run_places (by rw [Try.underlying117] at h; cases h; kernel_rfl) w
theorem sz118 : szE Try.prog 118 = some 1 := by kernel_rfl
theorem by118 : bytesE Try.prog 118 = some 8 := by kernel_rfl
theorem p118 : plainE Try.prog 118 = true := by kernel_rfl
theorem z118 : zeroE Try.prog 118 = some (.nilFunc) := by kernel_rfl
theorem sz119 : szE Try.prog 119 = some 1 := by kernel_rfl
theorem by119 : bytesE Try.prog 119 = some 8 := by kernel_rfl
theorem p119 : plainE Try.prog 119 = true := by kernel_rfl
theorem z119 : zeroE Try.prog 119 = some (.nilFunc) := by kernel_rfl
theorem sz120 : szE Try.prog 120 = some 5 := by kernel_rfl
theorem by120 : bytesE Try.prog 120 = some 56 := by kernel_rfl
theorem a120 : aggE Try.prog 120 = true := by kernel_rfl
theorem z120 : zeroE Try.prog 120 = some (.agg [.int .i64 0, .int .u8 0, .slice none 0 0, .bool false, .int .i64 0].toArray) := by kernel_rfl
theorem pl120 {fs : Array Field} (h : Try.prog.underlying 120 = some (.struct fs)) (w : World) : (fs.mapM fun f => do pure (f.offset, ← sizeOf f.type) : Sem (Array (Nat × Nat))).run Try.prog w = .ok [(0, 1), (1, 1), (2, 1), (3, 1), (4, 1)].toArray w :=
  run_places (by rw [Try.underlying120] at h; cases h; kernel_rfl) w
theorem sz121 : szE Try.prog 121 = some 5 := by kernel_rfl
theorem by121 : bytesE Try.prog 121 = some 56 := by kernel_rfl
theorem a121 : aggE Try.prog 121 = true := by kernel_rfl
theorem z121 : zeroE Try.prog 121 = some (.agg [.int .i64 0, .int .u8 0, .slice none 0 0, .bool false, .int .i64 0].toArray) := by kernel_rfl
theorem pl121 {fs : Array Field} (h : Try.prog.underlying 121 = some (.struct fs)) (w : World) : (fs.mapM fun f => do pure (f.offset, ← sizeOf f.type) : Sem (Array (Nat × Nat))).run Try.prog w = .ok [(0, 1), (1, 1), (2, 1), (3, 1), (4, 1)].toArray w :=
  run_places (by rw [Try.underlying121] at h; cases h; kernel_rfl) w
theorem sz123 : szE Try.prog 123 = some 1 := by kernel_rfl
theorem by123 : bytesE Try.prog 123 = some 8 := by kernel_rfl
theorem p123 : plainE Try.prog 123 = true := by kernel_rfl
theorem z123 : zeroE Try.prog 123 = some (.nilFunc) := by kernel_rfl
theorem sz124 : szE Try.prog 124 = some 1 := by kernel_rfl
theorem by124 : bytesE Try.prog 124 = some 8 := by kernel_rfl
theorem p124 : plainE Try.prog 124 = true := by kernel_rfl
theorem z124 : zeroE Try.prog 124 = some (.nilFunc) := by kernel_rfl
theorem sz125 : szE Try.prog 125 = some 1 := by kernel_rfl
theorem by125 : bytesE Try.prog 125 = some 8 := by kernel_rfl
theorem p125 : plainE Try.prog 125 = true := by kernel_rfl
theorem z125 : zeroE Try.prog 125 = some (.nilFunc) := by kernel_rfl
theorem sz126 : szE Try.prog 126 = some 1 := by kernel_rfl
theorem by126 : bytesE Try.prog 126 = some 8 := by kernel_rfl
theorem p126 : plainE Try.prog 126 = true := by kernel_rfl
theorem z126 : zeroE Try.prog 126 = some (.nilFunc) := by kernel_rfl
theorem sz127 : szE Try.prog 127 = some 1 := by kernel_rfl
theorem by127 : bytesE Try.prog 127 = some 8 := by kernel_rfl
theorem p127 : plainE Try.prog 127 = true := by kernel_rfl
theorem z127 : zeroE Try.prog 127 = some (.nilFunc) := by kernel_rfl
theorem sz128 : szE Try.prog 128 = some 5 := by kernel_rfl
theorem by128 : bytesE Try.prog 128 = some 56 := by kernel_rfl
theorem a128 : aggE Try.prog 128 = true := by kernel_rfl
theorem z128 : zeroE Try.prog 128 = some (.agg [.slice none 0 0, .int .i64 0, .int .u64 0, .int .i64 0, .int .i64 0].toArray) := by kernel_rfl
theorem pl128 {fs : Array Field} (h : Try.prog.underlying 128 = some (.struct fs)) (w : World) : (fs.mapM fun f => do pure (f.offset, ← sizeOf f.type) : Sem (Array (Nat × Nat))).run Try.prog w = .ok [(0, 1), (1, 1), (2, 1), (3, 1), (4, 1)].toArray w :=
  run_places (by rw [Try.underlying128] at h; cases h; kernel_rfl) w
theorem sz129 : szE Try.prog 129 = some 5 := by kernel_rfl
theorem by129 : bytesE Try.prog 129 = some 56 := by kernel_rfl
theorem a129 : aggE Try.prog 129 = true := by kernel_rfl
theorem z129 : zeroE Try.prog 129 = some (.agg [.slice none 0 0, .int .i64 0, .int .u64 0, .int .i64 0, .int .i64 0].toArray) := by kernel_rfl
theorem pl129 {fs : Array Field} (h : Try.prog.underlying 129 = some (.struct fs)) (w : World) : (fs.mapM fun f => do pure (f.offset, ← sizeOf f.type) : Sem (Array (Nat × Nat))).run Try.prog w = .ok [(0, 1), (1, 1), (2, 1), (3, 1), (4, 1)].toArray w :=
  run_places (by rw [Try.underlying129] at h; cases h; kernel_rfl) w
theorem sz130 : szE Try.prog 130 = some 1 := by kernel_rfl
theorem by130 : bytesE Try.prog 130 = some 8 := by kernel_rfl
theorem p130 : plainE Try.prog 130 = true := by kernel_rfl
theorem z130 : zeroE Try.prog 130 = some (.nilFunc) := by kernel_rfl
theorem sz131 : szE Try.prog 131 = some 1 := by kernel_rfl
theorem by131 : bytesE Try.prog 131 = some 8 := by kernel_rfl
theorem p131 : plainE Try.prog 131 = true := by kernel_rfl
theorem z131 : zeroE Try.prog 131 = some (.nilFunc) := by kernel_rfl
theorem sz132 : szE Try.prog 132 = some 1 := by kernel_rfl
theorem by132 : bytesE Try.prog 132 = some 8 := by kernel_rfl
theorem p132 : plainE Try.prog 132 = true := by kernel_rfl
theorem z132 : zeroE Try.prog 132 = some (.nilFunc) := by kernel_rfl
theorem sz133 : szE Try.prog 133 = some 1 := by kernel_rfl
theorem by133 : bytesE Try.prog 133 = some 8 := by kernel_rfl
theorem p133 : plainE Try.prog 133 = true := by kernel_rfl
theorem z133 : zeroE Try.prog 133 = some (.nilFunc) := by kernel_rfl
theorem sz134 : szE Try.prog 134 = some 1 := by kernel_rfl
theorem by134 : bytesE Try.prog 134 = some 8 := by kernel_rfl
theorem p134 : plainE Try.prog 134 = true := by kernel_rfl
theorem z134 : zeroE Try.prog 134 = some (.nilFunc) := by kernel_rfl
theorem sz135 : szE Try.prog 135 = some 1 := by kernel_rfl
theorem by135 : bytesE Try.prog 135 = some 8 := by kernel_rfl
theorem p135 : plainE Try.prog 135 = true := by kernel_rfl
theorem z135 : zeroE Try.prog 135 = some (.nilFunc) := by kernel_rfl
theorem sz136 : szE Try.prog 136 = some 1 := by kernel_rfl
theorem by136 : bytesE Try.prog 136 = some 8 := by kernel_rfl
theorem p136 : plainE Try.prog 136 = true := by kernel_rfl
theorem z136 : zeroE Try.prog 136 = some (.nilFunc) := by kernel_rfl
theorem sz137 : szE Try.prog 137 = some 1 := by kernel_rfl
theorem by137 : bytesE Try.prog 137 = some 8 := by kernel_rfl
theorem p137 : plainE Try.prog 137 = true := by kernel_rfl
theorem z137 : zeroE Try.prog 137 = some (.nilFunc) := by kernel_rfl
theorem sz138 : szE Try.prog 138 = some 64 := by kernel_rfl
theorem by138 : bytesE Try.prog 138 = some 64 := by kernel_rfl
theorem a138 : aggE Try.prog 138 = true := by kernel_rfl
theorem z138 : zeroE Try.prog 138 = some (.agg [.int .u8 0, .int .u8 0, .int .u8 0, .int .u8 0, .int .u8 0, .int .u8 0, .int .u8 0, .int .u8 0, .int .u8 0, .int .u8 0, .int .u8 0, .int .u8 0, .int .u8 0, .int .u8 0, .int .u8 0, .int .u8 0, .int .u8 0, .int .u8 0, .int .u8 0, .int .u8 0, .int .u8 0, .int .u8 0, .int .u8 0, .int .u8 0, .int .u8 0, .int .u8 0, .int .u8 0, .int .u8 0, .int .u8 0, .int .u8 0, .int .u8 0, .int .u8 0, .int .u8 0, .int .u8 0, .int .u8 0, .int .u8 0, .int .u8 0, .int .u8 0, .int .u8 0, .int .u8 0, .int .u8 0, .int .u8 0, .int .u8 0, .int .u8 0, .int .u8 0, .int .u8 0, .int .u8 0, .int .u8 0, .int .u8 0, .int .u8 0, .int .u8 0, .int .u8 0, .int .u8 0, .int .u8 0, .int .u8 0, .int .u8 0, .int .u8 0, .int .u8 0, .int .u8 0, .int .u8 0, .int .u8 0, .int .u8 0, .int .u8 0, .int .u8 0].toArray) := by kernel_rfl
theorem sz139 : szE Try.prog 139 = some 64 := by kernel_rfl
theorem by139 : bytesE Try.prog 139 = some 64 := by kernel_rfl
theorem a139 : aggE Try.prog 139 = true := by kernel_rfl
theorem z139 : zeroE Try.prog 139 = some (.agg [.int .u8 0, .int .u8 0, .int .u8 0, .int .u8 0, .int .u8 0, .int .u8 0, .int .u8 0, .int .u8 0, .int .u8 0, .int .u8 0, .int .u8 0, .int .u8 0, .int .u8 0, .int .u8 0, .int .u8 0, .int .u8 0, .int .u8 0, .int .u8 0, .int .u8 0, .int .u8 0, .int .u8 0, .int .u8 0, .int .u8 0, .int .u8 0, .int .u8 0, .int .u8 0, .int .u8 0, .int .u8 0, .int .u8 0, .int .u8 0, .int .u8 0, .int .u8 0, .int .u8 0, .int .u8 0, .int .u8 0, .int .u8 0, .int .u8 0, .int .u8 0, .int .u8 0, .int .u8 0, .int .u8 0, .int .u8 0, .int .u8 0, .int .u8 0, .int .u8 0, .int .u8 0, .int .u8 0, .int .u8 0, .int .u8 0, .int .u8 0, .int .u8 0, .int .u8 0, .int .u8 0, .int .u8 0, .int .u8 0, .int .u8 0, .int .u8 0, .int .u8 0, .int .u8 0, .int .u8 0, .int .u8 0, .int .u8 0, .int .u8 0, .int .u8 0].toArray) := by kernel_rfl
theorem sz140 : szE Try.prog 140 = some 1 := by kernel_rfl
theorem by140 : bytesE Try.prog 140 = some 8 := by kernel_rfl
theorem p140 : plainE Try.prog 140 = true := by kernel_rfl
theorem z140 : zeroE Try.prog 140 = some (.nilFunc) := by kernel_rfl
theorem sz141 : szE Try.prog 141 = some 1 := by kernel_rfl
theorem by141 : bytesE Try.prog 141 = some 8 := by kernel_rfl
theorem p141 : plainE Try.prog 141 = true := by kernel_rfl
theorem z141 : zeroE Try.prog 141 = some (.nilFunc) := by kernel_rfl
theorem sz142 : szE Try.prog 142 = some 1 := by kernel_rfl
theorem by142 : bytesE Try.prog 142 = some 8 := by kernel_rfl
theorem p142 : plainE Try.prog 142 = true := by kernel_rfl
theorem z142 : zeroE Try.prog 142 = some (.nilFunc) := by kernel_rfl
theorem sz143 : szE Try.prog 143 = some 1 := by kernel_rfl
theorem by143 : bytesE Try.prog 143 = some 8 := by kernel_rfl
theorem p143 : plainE Try.prog 143 = true := by kernel_rfl
theorem z143 : zeroE Try.prog 143 = some (.nilFunc) := by kernel_rfl
theorem sz144 : szE Try.prog 144 = some 1 := by kernel_rfl
theorem by144 : bytesE Try.prog 144 = some 8 := by kernel_rfl
theorem p144 : plainE Try.prog 144 = true := by kernel_rfl
theorem z144 : zeroE Try.prog 144 = some (.nilFunc) := by kernel_rfl
theorem sz145 : szE Try.prog 145 = some 1 := by kernel_rfl
theorem by145 : bytesE Try.prog 145 = some 8 := by kernel_rfl
theorem p145 : plainE Try.prog 145 = true := by kernel_rfl
theorem z145 : zeroE Try.prog 145 = some (.nilFunc) := by kernel_rfl
theorem sz146 : szE Try.prog 146 = some 8 := by kernel_rfl
theorem by146 : bytesE Try.prog 146 = some 64 := by kernel_rfl
theorem a146 : aggE Try.prog 146 = true := by kernel_rfl
theorem z146 : zeroE Try.prog 146 = some (.agg [.int .u64 0, .int .u64 0, .int .u64 0, .int .u64 0, .int .u64 0, .int .u64 0, .int .u64 0, .int .u64 0].toArray) := by kernel_rfl
theorem sz147 : szE Try.prog 147 = some 8 := by kernel_rfl
theorem by147 : bytesE Try.prog 147 = some 64 := by kernel_rfl
theorem a147 : aggE Try.prog 147 = true := by kernel_rfl
theorem z147 : zeroE Try.prog 147 = some (.agg [.int .u64 0, .int .u64 0, .int .u64 0, .int .u64 0, .int .u64 0, .int .u64 0, .int .u64 0, .int .u64 0].toArray) := by kernel_rfl
theorem sz148 : szE Try.prog 148 = some 1 := by kernel_rfl
theorem by148 : bytesE Try.prog 148 = some 24 := by kernel_rfl
theorem p148 : plainE Try.prog 148 = true := by kernel_rfl
theorem z148 : zeroE Try.prog 148 = some (.slice none 0 0) := by kernel_rfl
theorem sz149 : szE Try.prog 149 = some 2 := by kernel_rfl
theorem by149 : bytesE Try.prog 149 = some 32 := by kernel_rfl
theorem a149 : aggE Try.prog 149 = true := by kernel_rfl
theorem z149 : zeroE Try.prog 149 = some (.agg [.slice none 0 0, .int .i64 0].toArray) := by kernel_rfl
theorem pl149 {fs : Array Field} (h : Try.prog.underlying 149 = some (.struct fs)) (w : World) : (fs.mapM fun f => do pure (f.offset, ← sizeOf f.type) : Sem (Array (Nat × Nat))).run Try.prog w = .ok [(0, 1), (1, 1)].toArray w :=
  run_places (by rw [Try.underlying149] at h; cases h; kernel_rfl) w
theorem sz150 : szE Try.prog 150 = some 2 := by kernel_rfl
theorem by150 : bytesE Try.prog 150 = some 32 := by kernel_rfl
theorem a150 : aggE Try.prog 150 = true := by kernel_rfl
theorem z150 : zeroE Try.prog 150 = some (.agg [.slice none 0 0, .int .i64 0].toArray) := by kernel_rfl
theorem pl150 {fs : Array Field} (h : Try.prog.underlying 150 = some (.struct fs)) (w : World) : (fs.mapM fun f => do pure (f.offset, ← sizeOf f.type) : Sem (Array (Nat × Nat))).run Try.prog w = .ok [(0, 1), (1, 1)].toArray w :=
  run_places (by rw [Try.underlying150] at h; cases h; kernel_rfl) w
theorem sz151 : szE Try.prog 151 = some 1 := by kernel_rfl
theorem by151 : bytesE Try.prog 151 = some 8 := by kernel_rfl
theorem p151 : plainE Try.prog 151 = true := by kernel_rfl
theorem z151 : zeroE Try.prog 151 = some (.nilFunc) := by kernel_rfl
theorem sz152 : szE Try.prog 152 = some 1 := by kernel_rfl
theorem by152 : bytesE Try.prog 152 = some 8 := by kernel_rfl
theorem p152 : plainE Try.prog 152 = true := by kernel_rfl
theorem z152 : zeroE Try.prog 152 = some (.nilFunc) := by kernel_rfl
theorem sz153 : szE Try.prog 153 = some 1 := by kernel_rfl
theorem by153 : bytesE Try.prog 153 = some 8 := by kernel_rfl
theorem p153 : plainE Try.prog 153 = true := by kernel_rfl
theorem z153 : zeroE Try.prog 153 = some (.nilFunc) := by kernel_rfl
theorem sz154 : szE Try.prog 154 = some 1 := by kernel_rfl
theorem by154 : bytesE Try.prog 154 = some 8 := by kernel_rfl
theorem p154 : plainE Try.prog 154 = true := by kernel_rfl
theorem z154 : zeroE Try.prog 154 = some (.nilFunc) := by kernel_rfl
theorem sz155 : szE Try.prog 155 = some 1 := by kernel_rfl
theorem by155 : bytesE Try.prog 155 = some 8 := by kernel_rfl
theorem p155 : plainE Try.prog 155 = true := by kernel_rfl
theorem z155 : zeroE Try.prog 155 = some (.pointer none) := by kernel_rfl
theorem sz156 : szE Try.prog 156 = some 1 := by kernel_rfl
theorem by156 : bytesE Try.prog 156 = some 8 := by kernel_rfl
theorem p156 : plainE Try.prog 156 = true := by kernel_rfl
theorem z156 : zeroE Try.prog 156 = some (.nilFunc) := by kernel_rfl
theorem sz157 : szE Try.prog 157 = some 8 := by kernel_rfl
theorem by157 : bytesE Try.prog 157 = some 8 := by kernel_rfl
theorem a157 : aggE Try.prog 157 = true := by kernel_rfl
theorem z157 : zeroE Try.prog 157 = some (.agg [.int .u8 0, .int .u8 0, .int .u8 0, .int .u8 0, .int .u8 0, .int .u8 0, .int .u8 0, .int .u8 0].toArray) := by kernel_rfl
theorem sz158 : szE Try.prog 158 = some 1 := by kernel_rfl
theorem by158 : bytesE Try.prog 158 = some 8 := by kernel_rfl
theorem p158 : plainE Try.prog 158 = true := by kernel_rfl
theorem z158 : zeroE Try.prog 158 = some (.nilFunc) := by kernel_rfl
theorem sz159 : szE Try.prog 159 = some 1 := by kernel_rfl
theorem by159 : bytesE Try.prog 159 = some 8 := by kernel_rfl
theorem p159 : plainE Try.prog 159 = true := by kernel_rfl
theorem z159 : zeroE Try.prog 159 = some (.pointer none) := by kernel_rfl
theorem sz160 : szE Try.prog 160 = some 1 := by kernel_rfl
theorem by160 : bytesE Try.prog 160 = some 8 := by kernel_rfl
theorem p160 : plainE Try.prog 160 = true := by kernel_rfl
theorem z160 : zeroE Try.prog 160 = some (.nilFunc) := by kernel_rfl
theorem sz161 : szE Try.prog 161 = some 1 := by kernel_rfl
theorem by161 : bytesE Try.prog 161 = some 8 := by kernel_rfl
theorem p161 : plainE Try.prog 161 = true := by kernel_rfl
theorem z161 : zeroE Try.prog 161 = some (.nilFunc) := by kernel_rfl
theorem sz162 : szE Try.prog 162 = some 1 := by kernel_rfl
theorem by162 : bytesE Try.prog 162 = some 8 := by kernel_rfl
theorem p162 : plainE Try.prog 162 = true := by kernel_rfl
theorem z162 : zeroE Try.prog 162 = some (.nilFunc) := by kernel_rfl
theorem sz163 : szE Try.prog 163 = some 1 := by kernel_rfl
theorem by163 : bytesE Try.prog 163 = some 8 := by kernel_rfl
theorem p163 : plainE Try.prog 163 = true := by kernel_rfl
theorem z163 : zeroE Try.prog 163 = some (.nilFunc) := by kernel_rfl
theorem sz164 : szE Try.prog 164 = some 1 := by kernel_rfl
theorem by164 : bytesE Try.prog 164 = some 8 := by kernel_rfl
theorem p164 : plainE Try.prog 164 = true := by kernel_rfl
theorem z164 : zeroE Try.prog 164 = some (.nilFunc) := by kernel_rfl
theorem sz165 : szE Try.prog 165 = some 1 := by kernel_rfl
theorem by165 : bytesE Try.prog 165 = some 8 := by kernel_rfl
theorem p165 : plainE Try.prog 165 = true := by kernel_rfl
theorem z165 : zeroE Try.prog 165 = some (.nilFunc) := by kernel_rfl
theorem sz166 : szE Try.prog 166 = some 1 := by kernel_rfl
theorem by166 : bytesE Try.prog 166 = some 8 := by kernel_rfl
theorem p166 : plainE Try.prog 166 = true := by kernel_rfl
theorem z166 : zeroE Try.prog 166 = some (.nilFunc) := by kernel_rfl
theorem sz167 : szE Try.prog 167 = some 1 := by kernel_rfl
theorem by167 : bytesE Try.prog 167 = some 2 := by kernel_rfl
theorem p167 : plainE Try.prog 167 = true := by kernel_rfl
theorem z167 : zeroE Try.prog 167 = some (.int .u16 0) := by kernel_rfl
theorem sz169 : szE Try.prog 169 = some 1 := by kernel_rfl
theorem by169 : bytesE Try.prog 169 = some 8 := by kernel_rfl
theorem a169 : aggE Try.prog 169 = true := by kernel_rfl
theorem z169 : zeroE Try.prog 169 = some (.agg [.int .i64 0].toArray) := by kernel_rfl
theorem pl169 {fs : Array Field} (h : Try.prog.underlying 169 = some (.struct fs)) (w : World) : (fs.mapM fun f => do pure (f.offset, ← sizeOf f.type) : Sem (Array (Nat × Nat))).run Try.prog w = .ok [(0, 1)].toArray w :=
  run_places (by rw [Try.underlying169] at h; cases h; kernel_rfl) w
theorem sz170 : szE Try.prog 170 = some 1 := by kernel_rfl
theorem by170 : bytesE Try.prog 170 = some 8 := by kernel_rfl
theorem p170 : plainE Try.prog 170 = true := by kernel_rfl
theorem z170 : zeroE Try.prog 170 = some (.nilFunc) := by kernel_rfl
theorem sz171 : szE Try.prog 171 = some 1 := by kernel_rfl
theorem by171 : bytesE Try.prog 171 = some 8 := by kernel_rfl
theorem p171 : plainE Try.prog 171 = true := by kernel_rfl
theorem z171 : zeroE Try.prog 171 = some (.nilFunc) := by kernel_rfl
theorem sz172 : szE Try.prog 172 = some 1 := by kernel_rfl
theorem by172 : bytesE Try.prog 172 = some 8 := by kernel_rfl
theorem p172 : plainE Try.prog 172 = true := by kernel_rfl
theorem z172 : zeroE Try.prog 172 = some (.nilFunc) := by kernel_rfl
theorem sz173 : szE Try.prog 173 = some 1 := by kernel_rfl
theorem by173 : bytesE Try.prog 173 = some 8 := by kernel_rfl
theorem p173 : plainE Try.prog 173 = true := by kernel_rfl
theorem z173 : zeroE Try.prog 173 = some (.nilFunc) := by kernel_rfl
theorem sz174 : szE Try.prog 174 = some 1 := by kernel_rfl
theorem by174 : bytesE Try.prog 174 = some 8 := by kernel_rfl
theorem p174 : plainE Try.prog 174 = true := by kernel_rfl
theorem z174 : zeroE Try.prog 174 = some (.nilFunc) := by kernel_rfl
theorem sz175 : szE Try.prog 175 = some 2 := by kernel_rfl
theorem by175 : bytesE Try.prog 175 = some 32 := by kernel_rfl
theorem a175 : aggE Try.prog 175 = true := by kernel_rfl
theorem z175 : zeroE Try.prog 175 = some (.agg [.slice none 0 0, .int .i64 0].toArray) := by kernel_rfl
theorem pl175 {fs : Array Field} (h : Try.prog.underlying 175 = some (.struct fs)) (w : World) : (fs.mapM fun f => do pure (f.offset, ← sizeOf f.type) : Sem (Array (Nat × Nat))).run Try.prog w = .ok [(0, 1), (1, 1)].toArray w :=
  run_places (by rw [Try.underlying175] at h; cases h; kernel_rfl) w
theorem sz176 : szE Try.prog 176 = some 2 := by kernel_rfl
theorem by176 : bytesE Try.prog 176 = some 32 := by kernel_rfl
theorem a176 : aggE Try.prog 176 = true := by kernel_rfl
theorem z176 : zeroE Try.prog 176 = some (.agg [.slice none 0 0, .int .i64 0].toArray) := by kernel_rfl
theorem pl176 {fs : Array Field} (h : Try.prog.underlying 176 = some (.struct fs)) (w : World) : (fs.mapM fun f => do pure (f.offset, ← sizeOf f.type) : Sem (Array (Nat × Nat))).run Try.prog w = .ok [(0, 1), (1, 1)].toArray w :=
  run_places (by rw [Try.underlying176] at h; cases h; kernel_rfl) w
theorem sz177 : szE Try.prog 177 = some 1 := by kernel_rfl
theorem by177 : bytesE Try.prog 177 = some 8 := by kernel_rfl
theorem p177 : plainE Try.prog 177 = true := by kernel_rfl
theorem z177 : zeroE Try.prog 177 = some (.nilFunc) := by kernel_rfl
theorem sz178 : szE Try.prog 178 = some 1 := by kernel_rfl
theorem by178 : bytesE Try.prog 178 = some 8 := by kernel_rfl
theorem p178 : plainE Try.prog 178 = true := by kernel_rfl
theorem z178 : zeroE Try.prog 178 = some (.nilFunc) := by kernel_rfl
theorem sz179 : szE Try.prog 179 = some 65 := by kernel_rfl
theorem by179 : bytesE Try.prog 179 = some 72 := by kernel_rfl
theorem a179 : aggE Try.prog 179 = true := by kernel_rfl
theorem z179 : zeroE Try.prog 179 = some (.agg [.int .i64 0, .int .u8 0, .int .u8 0, .int .u8 0, .int .u8 0, .int .u8 0, .int .u8 0, .int .u8 0, .int .u8 0, .int .u8 0, .int .u8 0, .int .u8 0, .int .u8 0, .int .u8 0, .int .u8 0, .int .u8 0, .int .u8 0, .int .u8 0, .int .u8 0, .int .u8 0, .int .u8 0, .int .u8 0, .int .u8 0, .int .u8 0, .int .u8 0, .int .u8 0, .int .u8 0, .int .u8 0, .int .u8 0, .int .u8 0, .int .u8 0, .int .u8 0, .int .u8 0, .int .u8 0, .int .u8 0, .int .u8 0, .int .u8 0, .int .u8 0, .int .u8 0, .int .u8 0, .int .u8 0, .int .u8 0, .int .u8 0, .int .u8 0, .int .u8 0, .int .u8 0, .int .u8 0, .int .u8 0, .int .u8 0, .int .u8 0, .int .u8 0, .int .u8 0, .int .u8 0, .int .u8 0, .int .u8 0, .int .u8 0, .int .u8 0, .int .u8 0, .int .u8 0, .int .u8 0, .int .u8 0, .int .u8 0, .int .u8 0, .int .u8 0, .int .u8 0].toArray) := by kernel_rfl
theorem pl179 {fs : Array Field} (h : Try.prog.underlying 179 = some (.struct fs)) (w : World) : (fs.mapM fun f => do pure (f.offset, ← sizeOf f.type) : Sem (Array (Nat × Nat))).run Try.prog w = .ok [(0, 1), (1, 64)].toArray w :=
  run_places (by rw [Try.underlying179] at h; cases h; kernel_rfl) w
theorem sz180 : szE Try.prog 180 = some 1 := by kernel_rfl
theorem by180 : bytesE Try.prog 180 = some 24 := by kernel_rfl
theorem p180 : plainE Try.prog 180 = true := by kernel_rfl
theorem z180 : zeroE Try.prog 180 = some (.slice none 0 0) := by kernel_rfl
theorem sz181 : szE Try.prog 181 = some 1 := by kernel_rfl
theorem by181 : bytesE Try.prog 181 = some 8 := by kernel_rfl
theorem p181 : plainE Try.prog 181 = true := by kernel_rfl
theorem z181 : zeroE Try.prog 181 = some (.nilFunc) := by kernel_rfl
theorem sz182 : szE Try.prog 182 = some 1 := by kernel_rfl
theorem by182 : bytesE Try.prog 182 = some 8 := by kernel_rfl
theorem p182 : plainE Try.prog 182 = true := by kernel_rfl
theorem z182 : zeroE Try.prog 182 = some (.nilFunc) := by kernel_rfl
theorem sz183 : szE Try.prog 183 = some 6 := by kernel_rfl
theorem by183 : bytesE Try.prog 183 = some 48 := by kernel_rfl
theorem a183 : aggE Try.prog 183 = true := by kernel_rfl
theorem z183 : zeroE Try.prog 183 = some (.agg [.int .i64 0, .int .i64 0, .int .i64 0, .int .i64 0, .int .i64 0, .int .i64 0].toArray) := by kernel_rfl
theorem sz184 : szE Try.prog 184 = some 1 := by kernel_rfl
theorem by184 : bytesE Try.prog 184 = some 8 := by kernel_rfl
theorem p184 : plainE Try.prog 184 = true := by kernel_rfl
theorem z184 : zeroE Try.prog 184 = some (.nilFunc) := by kernel_rfl
theorem sz185 : szE Try.prog 185 = some 1 := by kernel_rfl
theorem by185 : bytesE Try.prog 185 = some 8 := by kernel_rfl
theorem p185 : plainE Try.prog 185 = true := by kernel_rfl
theorem z185 : zeroE Try.prog 185 = some (.nilFunc) := by kernel_rfl
theorem sz186 : szE Try.prog 186 = some 1 := by kernel_rfl
theorem by186 : bytesE Try.prog 186 = some 8 := by kernel_rfl
theorem p186 : plainE Try.prog 186 = true := by kernel_rfl
theorem z186 : zeroE Try.prog 186 = some (.nilFunc) := by kernel_rfl
theorem sz187 : szE Try.prog 187 = some 1 := by kernel_rfl
theorem by187 : bytesE Try.prog 187 = some 8 := by kernel_rfl
theorem p187 : plainE Try.prog 187 = true := by kernel_rfl
theorem z187 : zeroE Try.prog 187 = some (.int .u64 0) := by kernel_rfl
theorem sz188 : szE Try.prog 188 = some 1 := by kernel_rfl
theorem by188 : bytesE Try.prog 188 = some 8 := by kernel_rfl
theorem p188 : plainE Try.prog 188 = true := by kernel_rfl
theorem z188 : zeroE Try.prog 188 = some (.nilFunc) := by kernel_rfl
theorem sz189 : szE Try.prog 189 = some 1 := by kernel_rfl
theorem by189 : bytesE Try.prog 189 = some 8 := by kernel_rfl
theorem p189 : plainE Try.prog 189 = true := by kernel_rfl
theorem z189 : zeroE Try.prog 189 = some (.nilFunc) := by kernel_rfl
theorem sz190 : szE Try.prog 190 = some 1 := by kernel_rfl
theorem by190 : bytesE Try.prog 190 = some 8 := by kernel_rfl
theorem p190 : plainE Try.prog 190 = true := by kernel_rfl
theorem z190 : zeroE Try.prog 190 = some (.nilFunc) := by kernel_rfl
theorem sz191 : szE Try.prog 191 = some 1 := by kernel_rfl
theorem by191 : bytesE Try.prog 191 = some 8 := by kernel_rfl
theorem p191 : plainE Try.prog 191 = true := by kernel_rfl
theorem z191 : zeroE Try.prog 191 = some (.nilFunc) := by kernel_rfl
theorem sz192 : szE Try.prog 192 = some 1 := by kernel_rfl
theorem by192 : bytesE Try.prog 192 = some 8 := by kernel_rfl
theorem p192 : plainE Try.prog 192 = true := by kernel_rfl
theorem z192 : zeroE Try.prog 192 = some (.nilFunc) := by kernel_rfl
theorem sz193 : szE Try.prog 193 = some 1 := by kernel_rfl
theorem by193 : bytesE Try.prog 193 = some 8 := by kernel_rfl
theorem p193 : plainE Try.prog 193 = true := by kernel_rfl
theorem z193 : zeroE Try.prog 193 = some (.nilFunc) := by kernel_rfl
theorem sz194 : szE Try.prog 194 = some 1 := by kernel_rfl
theorem by194 : bytesE Try.prog 194 = some 8 := by kernel_rfl
theorem p194 : plainE Try.prog 194 = true := by kernel_rfl
theorem z194 : zeroE Try.prog 194 = some (.nilFunc) := by kernel_rfl
theorem sz195 : szE Try.prog 195 = some 1 := by kernel_rfl
theorem by195 : bytesE Try.prog 195 = some 8 := by kernel_rfl
theorem p195 : plainE Try.prog 195 = true := by kernel_rfl
theorem z195 : zeroE Try.prog 195 = some (.nilFunc) := by kernel_rfl
theorem sz196 : szE Try.prog 196 = some 1 := by kernel_rfl
theorem by196 : bytesE Try.prog 196 = some 8 := by kernel_rfl
theorem p196 : plainE Try.prog 196 = true := by kernel_rfl
theorem z196 : zeroE Try.prog 196 = some (.nilFunc) := by kernel_rfl
theorem sz197 : szE Try.prog 197 = some 1 := by kernel_rfl
theorem by197 : bytesE Try.prog 197 = some 8 := by kernel_rfl
theorem p197 : plainE Try.prog 197 = true := by kernel_rfl
theorem z197 : zeroE Try.prog 197 = some (.nilFunc) := by kernel_rfl
theorem sz198 : szE Try.prog 198 = some 1 := by kernel_rfl
theorem by198 : bytesE Try.prog 198 = some 8 := by kernel_rfl
theorem p198 : plainE Try.prog 198 = true := by kernel_rfl
theorem z198 : zeroE Try.prog 198 = some (.nilFunc) := by kernel_rfl
theorem sz199 : szE Try.prog 199 = some 4 := by kernel_rfl
theorem by199 : bytesE Try.prog 199 = some 40 := by kernel_rfl
theorem a199 : aggE Try.prog 199 = true := by kernel_rfl
theorem z199 : zeroE Try.prog 199 = some (.agg [.pointer none, .pointer none, .pointer none, .string ⟨#[]⟩].toArray) := by kernel_rfl
theorem pl199 {fs : Array Field} (h : Try.prog.underlying 199 = some (.struct fs)) (w : World) : (fs.mapM fun f => do pure (f.offset, ← sizeOf f.type) : Sem (Array (Nat × Nat))).run Try.prog w = .ok [(0, 1), (1, 1), (2, 1), (3, 1)].toArray w :=
  run_places (by rw [Try.underlying199] at h; cases h; kernel_rfl) w
theorem sz200 : szE Try.prog 200 = some 4 := by kernel_rfl
theorem by200 : bytesE Try.prog 200 = some 40 := by kernel_rfl
theorem a200 : aggE Try.prog 200 = true := by kernel_rfl
theorem z200 : zeroE Try.prog 200 = some (.agg [.pointer none, .pointer none, .pointer none, .string ⟨#[]⟩].toArray) := by kernel_rfl
theorem pl200 {fs : Array Field} (h : Try.prog.underlying 200 = some (.struct fs)) (w : World) : (fs.mapM fun f => do pure (f.offset, ← sizeOf f.type) : Sem (Array (Nat × Nat))).run Try.prog w = .ok [(0, 1), (1, 1), (2, 1), (3, 1)].toArray w :=
  run_places (by rw [Try.underlying200] at h; cases h; kernel_rfl) w
theorem sz201 : szE Try.prog 201 = some 0 := by kernel_rfl
theorem by201 : bytesE Try.prog 201 = some 0 := by kernel_rfl
theorem a201 : aggE Try.prog 201 = true := by kernel_rfl
theorem z201 : zeroE Try.prog 201 = some (.agg [].toArray) := by kernel_rfl
theorem sz202 : szE Try.prog 202 = some 0 := by kernel_rfl
theorem by202 : bytesE Try.prog 202 = some 0 := by kernel_rfl
theorem a202 : aggE Try.prog 202 = true := by kernel_rfl
theorem z202 : zeroE Try.prog 202 = some (.agg [].toArray) := by kernel_rfl
theorem pl202 {fs : Array Field} (h : Try.prog.underlying 202 = some (.struct fs)) (w : World) : (fs.mapM fun f => do pure (f.offset, ← sizeOf f.type) : Sem (Array (Nat × Nat))).run Try.prog w = .ok [(0, 0)].toArray w :=
  run_places (by rw [Try.underlying202] at h; cases h; kernel_rfl) w
theorem sz203 : szE Try.prog 203 = some 0 := by kernel_rfl
theorem by203 : bytesE Try.prog 203 = some 0 := by kernel_rfl
theorem a203 : aggE Try.prog 203 = true := by kernel_rfl
theorem z203 : zeroE Try.prog 203 = some (.agg [].toArray) := by kernel_rfl
theorem pl203 {fs : Array Field} (h : Try.prog.underlying 203 = some (.struct fs)) (w : World) : (fs.mapM fun f => do pure (f.offset, ← sizeOf f.type) : Sem (Array (Nat × Nat))).run Try.prog w = .ok [(0, 0)].toArray w :=
  run_places (by rw [Try.underlying203] at h; cases h; kernel_rfl) w
theorem sz204 : szE Try.prog 204 = some 1 := by kernel_rfl
theorem by204 : bytesE Try.prog 204 = some 1 := by kernel_rfl
theorem p204 : plainE Try.prog 204 = true := by kernel_rfl
theorem z204 : zeroE Try.prog 204 = some (.int .u8 0) := by kernel_rfl
theorem sz205 : szE Try.prog 205 = some 1 := by kernel_rfl
theorem by205 : bytesE Try.prog 205 = some 1 := by kernel_rfl
theorem p205 : plainE Try.prog 205 = true := by kernel_rfl
theorem z205 : zeroE Try.prog 205 = some (.int .u8 0) := by kernel_rfl
theorem sz206 : szE Try.prog 206 = some 1 := by kernel_rfl
theorem by206 : bytesE Try.prog 206 = some 8 := by kernel_rfl
theorem p206 : plainE Try.prog 206 = true := by kernel_rfl
theorem z206 : zeroE Try.prog 206 = some (.nilFunc) := by kernel_rfl
theorem sz207 : szE Try.prog 207 = some 1 := by kernel_rfl
theorem by207 : bytesE Try.prog 207 = some 8 := by kernel_rfl
theorem p207 : plainE Try.prog 207 = true := by kernel_rfl
theorem z207 : zeroE Try.prog 207 = some (.pointer none) := by kernel_rfl
theorem sz208 : szE Try.prog 208 = some 1 := by kernel_rfl
theorem by208 : bytesE Try.prog 208 = some 4 := by kernel_rfl
theorem p208 : plainE Try.prog 208 = true := by kernel_rfl
theorem z208 : zeroE Try.prog 208 = some (.int .i32 0) := by kernel_rfl
theorem sz209 : szE Try.prog 209 = some 1 := by kernel_rfl
theorem by209 : bytesE Try.prog 209 = some 4 := by kernel_rfl
theorem p209 : plainE Try.prog 209 = true := by kernel_rfl
theorem z209 : zeroE Try.prog 209 = some (.int .i32 0) := by kernel_rfl
theorem sz210 : szE Try.prog 210 = some 11 := by kernel_rfl
theorem by210 : bytesE Try.prog 210 = some 48 := by kernel_rfl
theorem a210 : aggE Try.prog 210 = true := by kernel_rfl
theorem z210 : zeroE Try.prog 210 = some (.agg [.int .u64 0, .int .u64 0, .int .u32 0, .int .u8 0, .int .u8 0, .int .u8 0, .int .u8 0, .nilFunc, .pointer none, .int .i32 0, .int .i32 0].toArray) := by kernel_rfl
theorem pl210 {fs : Array Field} (h : Try.prog.underlying 210 = some (.struct fs)) (w : World) : (fs.mapM fun f => do pure (f.offset, ← sizeOf f.type) : Sem (Array (Nat × Nat))).run Try.prog w = .ok [(0, 1), (1, 1), (2, 1), (3, 1), (4, 1), (5, 1), (6, 1), (7, 1), (8, 1), (9, 1), (10, 1)].toArray w :=
  run_places (by rw [Try.underlying210] at h; cases h; kernel_rfl) w
theorem sz211 : szE Try.prog 211 = some 11 := by kernel_rfl
theorem by211 : bytesE Try.prog 211 = some 48 := by kernel_rfl
theorem a211 : aggE Try.prog 211 = true := by kernel_rfl
theorem z211 : zeroE Try.prog 211 = some (.agg [.int .u64 0, .int .u64 0, .int .u32 0, .int .u8 0, .int .u8 0, .int .u8 0, .int .u8 0, .nilFunc, .pointer none, .int .i32 0, .int .i32 0].toArray) := by kernel_rfl
theorem pl211 {fs : Array Field} (h : Try.prog.underlying 211 = some (.struct fs)) (w : World) : (fs.mapM fun f => do pure (f.offset, ← sizeOf f.type) : Sem (Array (Nat × Nat))).run Try.prog w = .ok [(0, 1), (1, 1), (2, 1), (3, 1), (4, 1), (5, 1), (6, 1), (7, 1), (8, 1), (9, 1), (10, 1)].toArray w :=
  run_places (by rw [Try.underlying211] at h; cases h; kernel_rfl) w
theorem sz212 : szE Try.prog 212 = some 1 := by kernel_rfl
theorem by212 : bytesE Try.prog 212 = some 8 := by kernel_rfl
theorem p212 : plainE Try.prog 212 = true := by kernel_rfl
theorem z212 : zeroE Try.prog 212 = some (.nilFunc) := by kernel_rfl
theorem sz213 : szE Try.prog 213 = some 1 := by kernel_rfl
theorem by213 : bytesE Try.prog 213 = some 8 := by kernel_rfl
theorem p213 : plainE Try.prog 213 = true := by kernel_rfl
theorem z213 : zeroE Try.prog 213 = some (.nilFunc) := by kernel_rfl
theorem sz214 : szE Try.prog 214 = some 1 := by kernel_rfl
theorem by214 : bytesE Try.prog 214 = some 8 := by kernel_rfl
theorem p214 : plainE Try.prog 214 = true := by kernel_rfl
theorem z214 : zeroE Try.prog 214 = some (.nilFunc) := by kernel_rfl
theorem sz215 : szE Try.prog 215 = some 1 := by kernel_rfl
theorem by215 : bytesE Try.prog 215 = some 8 := by kernel_rfl
theorem p215 : plainE Try.prog 215 = true := by kernel_rfl
theorem z215 : zeroE Try.prog 215 = some (.pointer none) := by kernel_rfl
theorem bd2 : bodyB Try.prog 2 = true := by kernel_rfl
theorem bd3 : bodyB Try.prog 3 = true := by kernel_rfl
theorem bd4 : bodyB Try.prog 4 = true := by kernel_rfl
theorem bd5 : bodyB Try.prog 5 = true := by kernel_rfl
theorem bd6 : bodyB Try.prog 6 = true := by kernel_rfl
theorem bd7 : bodyB Try.prog 7 = true := by kernel_rfl
theorem bd8 : bodyB Try.prog 8 = true := by kernel_rfl
theorem bd9 : bodyB Try.prog 9 = true := by kernel_rfl
theorem bd10 : bodyB Try.prog 10 = true := by kernel_rfl
theorem bd11 : bodyB Try.prog 11 = true := by kernel_rfl
theorem bd12 : bodyB Try.prog 12 = true := by kernel_rfl
theorem bd13 : bodyB Try.prog 13 = true := by kernel_rfl
theorem bd14 : bodyB Try.prog 14 = true := by kernel_rfl
theorem bd15 : bodyB Try.prog 15 = true := by kernel_rfl
theorem bd16 : bodyB Try.prog 16 = true := by kernel_rfl
theorem bd17 : bodyB Try.prog 17 = true := by kernel_rfl
theorem bd18 : bodyB Try.prog 18 = true := by kernel_rfl
theorem bd19 : bodyB Try.prog 19 = true := by kernel_rfl
theorem bd20 : bodyB Try.prog 20 = true := by kernel_rfl
theorem bd21 : bodyB Try.prog 21 = true := by kernel_rfl
theorem bd22 : bodyB Try.prog 22 = true := by kernel_rfl
theorem bd23 : bodyB Try.prog 23 = true := by kernel_rfl
theorem bd24 : bodyB Try.prog 24 = true := by kernel_rfl
theorem bd25 : bodyB Try.prog 25 = true := by kernel_rfl
theorem bd26 : bodyB Try.prog 26 = true := by kernel_rfl
theorem bd27 : bodyB Try.prog 27 = true := by kernel_rfl
theorem bd28 : bodyB Try.prog 28 = true := by kernel_rfl
theorem bd29 : bodyB Try.prog 29 = true := by kernel_rfl
theorem bd30 : bodyB Try.prog 30 = true := by kernel_rfl
theorem bd31 : bodyB Try.prog 31 = true := by kernel_rfl
theorem bd32 : bodyB Try.prog 32 = true := by kernel_rfl
theorem bd33 : bodyB Try.prog 33 = true := by kernel_rfl
theorem bd34 : bodyB Try.prog 34 = true := by kernel_rfl
theorem bd35 : bodyB Try.prog 35 = true := by kernel_rfl
theorem bd36 : bodyB Try.prog 36 = true := by kernel_rfl
theorem bd37 : bodyB Try.prog 37 = true := by kernel_rfl
theorem bd38 : bodyB Try.prog 38 = true := by kernel_rfl
theorem bd39 : bodyB Try.prog 39 = true := by kernel_rfl
theorem bd40 : bodyB Try.prog 40 = true := by kernel_rfl
theorem bd41 : bodyB Try.prog 41 = true := by kernel_rfl
theorem bd42 : bodyB Try.prog 42 = true := by kernel_rfl
theorem bd43 : bodyB Try.prog 43 = true := by kernel_rfl
theorem bd44 : bodyB Try.prog 44 = true := by kernel_rfl
theorem bd45 : bodyB Try.prog 45 = true := by kernel_rfl
theorem bd46 : bodyB Try.prog 46 = true := by kernel_rfl
theorem bd47 : bodyB Try.prog 47 = true := by kernel_rfl
theorem bd48 : bodyB Try.prog 48 = true := by kernel_rfl
theorem bd49 : bodyB Try.prog 49 = true := by kernel_rfl
theorem bd50 : bodyB Try.prog 50 = true := by kernel_rfl
theorem bd51 : bodyB Try.prog 51 = true := by kernel_rfl
theorem bd52 : bodyB Try.prog 52 = true := by kernel_rfl
theorem bd53 : bodyB Try.prog 53 = true := by kernel_rfl
theorem bd54 : bodyB Try.prog 54 = true := by kernel_rfl
theorem bd55 : bodyB Try.prog 55 = true := by kernel_rfl
theorem bd56 : bodyB Try.prog 56 = true := by kernel_rfl
theorem bd57 : bodyB Try.prog 57 = true := by kernel_rfl
theorem bd58 : bodyB Try.prog 58 = true := by kernel_rfl
theorem bd59 : bodyB Try.prog 59 = true := by kernel_rfl
theorem bd60 : bodyB Try.prog 60 = true := by kernel_rfl
theorem bd61 : bodyB Try.prog 61 = true := by kernel_rfl
theorem bd62 : bodyB Try.prog 62 = true := by kernel_rfl
theorem bd63 : bodyB Try.prog 63 = true := by kernel_rfl
theorem bd64 : bodyB Try.prog 64 = true := by kernel_rfl
theorem bd65 : bodyB Try.prog 65 = true := by kernel_rfl
theorem bd66 : bodyB Try.prog 66 = true := by kernel_rfl
theorem bd67 : bodyB Try.prog 67 = true := by kernel_rfl
theorem bd68 : bodyB Try.prog 68 = true := by kernel_rfl
theorem bd69 : bodyB Try.prog 69 = true := by kernel_rfl
theorem bd70 : bodyB Try.prog 70 = true := by kernel_rfl
theorem bd71 : bodyB Try.prog 71 = true := by kernel_rfl
theorem bd72 : bodyB Try.prog 72 = true := by kernel_rfl
theorem bd73 : bodyB Try.prog 73 = true := by kernel_rfl
theorem bd74 : bodyB Try.prog 74 = true := by kernel_rfl
theorem bd75 : bodyB Try.prog 75 = true := by kernel_rfl
theorem bd76 : bodyB Try.prog 76 = true := by kernel_rfl
theorem bd77 : bodyB Try.prog 77 = true := by kernel_rfl
theorem bd78 : bodyB Try.prog 78 = true := by kernel_rfl
theorem bd79 : bodyB Try.prog 79 = true := by kernel_rfl
theorem bd80 : bodyB Try.prog 80 = true := by kernel_rfl
theorem bd81 : bodyB Try.prog 81 = true := by kernel_rfl
theorem bd82 : bodyB Try.prog 82 = true := by kernel_rfl
theorem bd83 : bodyB Try.prog 83 = true := by kernel_rfl
theorem bd84 : bodyB Try.prog 84 = true := by kernel_rfl
theorem bd85 : bodyB Try.prog 85 = true := by kernel_rfl
theorem bd86 : bodyB Try.prog 86 = true := by kernel_rfl
theorem bd87 : bodyB Try.prog 87 = true := by kernel_rfl
theorem bd88 : bodyB Try.prog 88 = true := by kernel_rfl
theorem bd89 : bodyB Try.prog 89 = true := by kernel_rfl
theorem bd90 : bodyB Try.prog 90 = true := by kernel_rfl
theorem bd91 : bodyB Try.prog 91 = true := by kernel_rfl
theorem bd92 : bodyB Try.prog 92 = true := by kernel_rfl
theorem bd93 : bodyB Try.prog 93 = true := by kernel_rfl
theorem bd94 : bodyB Try.prog 94 = true := by kernel_rfl
theorem bd95 : bodyB Try.prog 95 = true := by kernel_rfl
theorem bd96 : bodyB Try.prog 96 = true := by kernel_rfl
theorem bd97 : bodyB Try.prog 97 = true := by kernel_rfl
theorem bd98 : bodyB Try.prog 98 = true := by kernel_rfl
theorem bd99 : bodyB Try.prog 99 = true := by kernel_rfl
theorem bd100 : bodyB Try.prog 100 = true := by kernel_rfl
theorem bd101 : bodyB Try.prog 101 = true := by kernel_rfl
theorem bd102 : bodyB Try.prog 102 = true := by kernel_rfl
theorem bd103 : bodyB Try.prog 103 = true := by kernel_rfl
theorem bd104 : bodyB Try.prog 104 = true := by kernel_rfl
theorem bd105 : bodyB Try.prog 105 = true := by kernel_rfl
theorem bd106 : bodyB Try.prog 106 = true := by kernel_rfl
theorem bd107 : bodyB Try.prog 107 = true := by kernel_rfl
theorem bd108 : bodyB Try.prog 108 = true := by kernel_rfl
theorem bd109 : bodyB Try.prog 109 = true := by kernel_rfl
theorem bd110 : bodyB Try.prog 110 = true := by kernel_rfl
theorem bd111 : bodyB Try.prog 111 = true := by kernel_rfl
theorem bd112 : bodyB Try.prog 112 = true := by kernel_rfl
theorem bd113 : bodyB Try.prog 113 = true := by kernel_rfl
theorem bd114 : bodyB Try.prog 114 = true := by kernel_rfl
theorem bd115 : bodyB Try.prog 115 = true := by kernel_rfl
theorem bd116 : bodyB Try.prog 116 = true := by kernel_rfl
theorem bd117 : bodyB Try.prog 117 = true := by kernel_rfl
theorem bd118 : bodyB Try.prog 118 = true := by kernel_rfl
theorem bd119 : bodyB Try.prog 119 = true := by kernel_rfl
theorem bd120 : bodyB Try.prog 120 = true := by kernel_rfl
theorem bd121 : bodyB Try.prog 121 = true := by kernel_rfl
theorem bd122 : bodyB Try.prog 122 = true := by kernel_rfl
theorem bd123 : bodyB Try.prog 123 = true := by kernel_rfl
theorem bd124 : bodyB Try.prog 124 = true := by kernel_rfl
theorem bd125 : bodyB Try.prog 125 = true := by kernel_rfl
theorem bd126 : bodyB Try.prog 126 = true := by kernel_rfl
theorem bd127 : bodyB Try.prog 127 = true := by kernel_rfl
theorem bd128 : bodyB Try.prog 128 = true := by kernel_rfl
theorem bd129 : bodyB Try.prog 129 = true := by kernel_rfl
theorem bd130 : bodyB Try.prog 130 = true := by kernel_rfl
theorem bd131 : bodyB Try.prog 131 = true := by kernel_rfl
theorem bd132 : bodyB Try.prog 132 = true := by kernel_rfl
theorem bd133 : bodyB Try.prog 133 = true := by kernel_rfl
theorem bd134 : bodyB Try.prog 134 = true := by kernel_rfl
theorem bd135 : bodyB Try.prog 135 = true := by kernel_rfl
theorem bd136 : bodyB Try.prog 136 = true := by kernel_rfl
theorem bd137 : bodyB Try.prog 137 = true := by kernel_rfl
theorem bd138 : bodyB Try.prog 138 = true := by kernel_rfl
theorem bd139 : bodyB Try.prog 139 = true := by kernel_rfl
theorem bd140 : bodyB Try.prog 140 = true := by kernel_rfl
theorem bd141 : bodyB Try.prog 141 = true := by kernel_rfl
theorem bd142 : bodyB Try.prog 142 = true := by kernel_rfl
theorem bd143 : bodyB Try.prog 143 = true := by kernel_rfl
theorem bd144 : bodyB Try.prog 144 = true := by kernel_rfl
theorem bd145 : bodyB Try.prog 145 = true := by kernel_rfl
theorem bd146 : bodyB Try.prog 146 = true := by kernel_rfl
theorem bd147 : bodyB Try.prog 147 = true := by kernel_rfl
theorem bd148 : bodyB Try.prog 148 = true := by kernel_rfl
theorem bd149 : bodyB Try.prog 149 = true := by kernel_rfl
theorem bd150 : bodyB Try.prog 150 = true := by kernel_rfl
theorem bd151 : bodyB Try.prog 151 = true := by kernel_rfl
theorem bd152 : bodyB Try.prog 152 = true := by kernel_rfl
theorem bd153 : bodyB Try.prog 153 = true := by kernel_rfl
theorem bd154 : bodyB Try.prog 154 = true := by kernel_rfl
theorem bd155 : bodyB Try.prog 155 = true := by kernel_rfl
theorem bd156 : bodyB Try.prog 156 = true := by kernel_rfl
theorem mo : Try.prog.follows .mixedOrders = true := by kernel_rfl
end Go.Vl
