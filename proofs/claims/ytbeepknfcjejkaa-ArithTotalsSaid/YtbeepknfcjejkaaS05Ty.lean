/- Facts on the types of the program, as the proof uses them. -/
import Derived.Test.YtbeepknfcjejkaaHLApi
import Derived.Test.YtbeepknfcjejkaaProg
import Derived.KernelRfl
namespace Go.Proofs.Ytbeepknfcjejkaa.HL
open Go Go.Proofs Go.Proofs.Ytbeepknfcjejkaa.HL
set_option linter.unusedSimpArgs false
set_option linter.unusedVariables false
theorem sz2 : szOf Try.prog 2 = some 1 := by kernel_rfl
theorem sz3 : szOf Try.prog 3 = some 1 := by kernel_rfl
theorem sz4 : szOf Try.prog 4 = some 1 := by kernel_rfl
theorem sz5 : szOf Try.prog 5 = some 1 := by kernel_rfl
theorem sz6 : szOf Try.prog 6 = some 1 := by kernel_rfl
theorem sz7 : szOf Try.prog 7 = some 4 := by kernel_rfl
theorem sz8 : szOf Try.prog 8 = some 4 := by kernel_rfl
theorem sz9 : szOf Try.prog 9 = some 1 := by kernel_rfl
theorem sz10 : szOf Try.prog 10 = some 1 := by kernel_rfl
theorem sz11 : szOf Try.prog 11 = some 1 := by kernel_rfl
theorem sz12 : szOf Try.prog 12 = some 1 := by kernel_rfl
theorem sz13 : szOf Try.prog 13 = some 2 := by kernel_rfl
theorem sz14 : szOf Try.prog 14 = some 2 := by kernel_rfl
theorem sz15 : szOf Try.prog 15 = some 1 := by kernel_rfl
theorem sz16 : szOf Try.prog 16 = some 1 := by kernel_rfl
theorem sz17 : szOf Try.prog 17 = some 1 := by kernel_rfl
theorem sz18 : szOf Try.prog 18 = some 1 := by kernel_rfl
theorem sz19 : szOf Try.prog 19 = some 1 := by kernel_rfl
theorem sz20 : szOf Try.prog 20 = some 1 := by kernel_rfl
theorem sz21 : szOf Try.prog 21 = some 1 := by kernel_rfl
theorem sz22 : szOf Try.prog 22 = some 1 := by kernel_rfl
theorem sz23 : szOf Try.prog 23 = some 1 := by kernel_rfl
theorem sz24 : szOf Try.prog 24 = some 2 := by kernel_rfl
theorem sz25 : szOf Try.prog 25 = some 2 := by kernel_rfl
theorem sz26 : szOf Try.prog 26 = some 1 := by kernel_rfl
theorem sz27 : szOf Try.prog 27 = some 1 := by kernel_rfl
theorem sz28 : szOf Try.prog 28 = some 1 := by kernel_rfl
theorem sz29 : szOf Try.prog 29 = some 1 := by kernel_rfl
theorem sz31 : szOf Try.prog 31 = some 1 := by kernel_rfl
theorem sz32 : szOf Try.prog 32 = some 1 := by kernel_rfl
theorem sz33 : szOf Try.prog 33 = some 1 := by kernel_rfl
theorem sz34 : szOf Try.prog 34 = some 1 := by kernel_rfl
theorem sz35 : szOf Try.prog 35 = some 1 := by kernel_rfl
theorem sz36 : szOf Try.prog 36 = some 1 := by kernel_rfl
theorem sz37 : szOf Try.prog 37 = some 1 := by kernel_rfl
theorem sz38 : szOf Try.prog 38 = some 1 := by kernel_rfl
theorem sz39 : szOf Try.prog 39 = some 1 := by kernel_rfl
theorem sz41 : szOf Try.prog 41 = some 1 := by kernel_rfl
theorem sz42 : szOf Try.prog 42 = some 1 := by kernel_rfl
theorem sz43 : szOf Try.prog 43 = some 1 := by kernel_rfl
theorem sz44 : szOf Try.prog 44 = some 1 := by kernel_rfl
theorem sz45 : szOf Try.prog 45 = some 1 := by kernel_rfl
theorem sz46 : szOf Try.prog 46 = some 1 := by kernel_rfl
theorem sz47 : szOf Try.prog 47 = some 1 := by kernel_rfl
theorem sz48 : szOf Try.prog 48 = some 1 := by kernel_rfl
theorem sz49 : szOf Try.prog 49 = some 2 := by kernel_rfl
theorem sz50 : szOf Try.prog 50 = some 2 := by kernel_rfl
theorem sz51 : szOf Try.prog 51 = some 1 := by kernel_rfl
theorem sz52 : szOf Try.prog 52 = some 1 := by kernel_rfl
theorem sz53 : szOf Try.prog 53 = some 1 := by kernel_rfl
theorem sz55 : szOf Try.prog 55 = some 1 := by kernel_rfl
theorem sz57 : szOf Try.prog 57 = some 1 := by kernel_rfl
theorem sz59 : szOf Try.prog 59 = some 2 := by kernel_rfl
theorem sz60 : szOf Try.prog 60 = some 2 := by kernel_rfl
theorem sz62 : szOf Try.prog 62 = some 1 := by kernel_rfl
theorem sz63 : szOf Try.prog 63 = some 1 := by kernel_rfl
theorem sz64 : szOf Try.prog 64 = some 1 := by kernel_rfl
theorem sz65 : szOf Try.prog 65 = some 1 := by kernel_rfl
theorem sz66 : szOf Try.prog 66 = some 1 := by kernel_rfl
theorem sz67 : szOf Try.prog 67 = some 1 := by kernel_rfl
theorem sz68 : szOf Try.prog 68 = some 1 := by kernel_rfl
theorem sz69 : szOf Try.prog 69 = some 1 := by kernel_rfl
theorem sz70 : szOf Try.prog 70 = some 1 := by kernel_rfl
theorem sz71 : szOf Try.prog 71 = some 1 := by kernel_rfl
theorem sz72 : szOf Try.prog 72 = some 1 := by kernel_rfl
theorem sz73 : szOf Try.prog 73 = some 4 := by kernel_rfl
theorem sz74 : szOf Try.prog 74 = some 4 := by kernel_rfl
theorem sz75 : szOf Try.prog 75 = some 0 := by kernel_rfl
theorem sz76 : szOf Try.prog 76 = some 0 := by kernel_rfl
theorem sz77 : szOf Try.prog 77 = some 0 := by kernel_rfl
theorem sz78 : szOf Try.prog 78 = some 1 := by kernel_rfl
theorem sz79 : szOf Try.prog 79 = some 1 := by kernel_rfl
theorem sz80 : szOf Try.prog 80 = some 1 := by kernel_rfl
theorem sz81 : szOf Try.prog 81 = some 1 := by kernel_rfl
theorem sz82 : szOf Try.prog 82 = some 1 := by kernel_rfl
theorem sz83 : szOf Try.prog 83 = some 1 := by kernel_rfl
theorem sz84 : szOf Try.prog 84 = some 1 := by kernel_rfl
theorem sz85 : szOf Try.prog 85 = some 1 := by kernel_rfl
theorem sz86 : szOf Try.prog 86 = some 11 := by kernel_rfl
theorem sz87 : szOf Try.prog 87 = some 11 := by kernel_rfl
theorem by3 : byOf Try.prog 3 = some 8 := by kernel_rfl
theorem by4 : byOf Try.prog 4 = some 1 := by kernel_rfl
theorem by5 : byOf Try.prog 5 = some 1 := by kernel_rfl
theorem by6 : byOf Try.prog 6 = some 1 := by kernel_rfl
theorem by7 : byOf Try.prog 7 = some 24 := by kernel_rfl
theorem by8 : byOf Try.prog 8 = some 24 := by kernel_rfl
theorem by9 : byOf Try.prog 9 = some 16 := by kernel_rfl
theorem by10 : byOf Try.prog 10 = some 16 := by kernel_rfl
theorem by11 : byOf Try.prog 11 = some 16 := by kernel_rfl
theorem by12 : byOf Try.prog 12 = some 8 := by kernel_rfl
theorem by13 : byOf Try.prog 13 = some 24 := by kernel_rfl
theorem by14 : byOf Try.prog 14 = some 24 := by kernel_rfl
theorem by15 : byOf Try.prog 15 = some 8 := by kernel_rfl
theorem by16 : byOf Try.prog 16 = some 8 := by kernel_rfl
theorem by17 : byOf Try.prog 17 = some 8 := by kernel_rfl
theorem by18 : byOf Try.prog 18 = some 8 := by kernel_rfl
theorem by19 : byOf Try.prog 19 = some 8 := by kernel_rfl
theorem by20 : byOf Try.prog 20 = some 16 := by kernel_rfl
theorem by21 : byOf Try.prog 21 = some 4 := by kernel_rfl
theorem by22 : byOf Try.prog 22 = some 24 := by kernel_rfl
theorem by23 : byOf Try.prog 23 = some 8 := by kernel_rfl
theorem by24 : byOf Try.prog 24 = some 32 := by kernel_rfl
theorem by25 : byOf Try.prog 25 = some 32 := by kernel_rfl
theorem by26 : byOf Try.prog 26 = some 8 := by kernel_rfl
theorem by27 : byOf Try.prog 27 = some 8 := by kernel_rfl
theorem by28 : byOf Try.prog 28 = some 16 := by kernel_rfl
theorem by29 : byOf Try.prog 29 = some 16 := by kernel_rfl
theorem by31 : byOf Try.prog 31 = some 8 := by kernel_rfl
theorem by32 : byOf Try.prog 32 = some 8 := by kernel_rfl
theorem by33 : byOf Try.prog 33 = some 8 := by kernel_rfl
theorem by34 : byOf Try.prog 34 = some 8 := by kernel_rfl
theorem by35 : byOf Try.prog 35 = some 8 := by kernel_rfl
theorem by36 : byOf Try.prog 36 = some 8 := by kernel_rfl
theorem by37 : byOf Try.prog 37 = some 8 := by kernel_rfl
theorem by38 : byOf Try.prog 38 = some 8 := by kernel_rfl
theorem by39 : byOf Try.prog 39 = some 8 := by kernel_rfl
theorem by41 : byOf Try.prog 41 = some 8 := by kernel_rfl
theorem by42 : byOf Try.prog 42 = some 8 := by kernel_rfl
theorem by43 : byOf Try.prog 43 = some 8 := by kernel_rfl
theorem by44 : byOf Try.prog 44 = some 8 := by kernel_rfl
theorem by45 : byOf Try.prog 45 = some 8 := by kernel_rfl
theorem by46 : byOf Try.prog 46 = some 8 := by kernel_rfl
theorem by47 : byOf Try.prog 47 = some 8 := by kernel_rfl
theorem by48 : byOf Try.prog 48 = some 8 := by kernel_rfl
theorem by49 : byOf Try.prog 49 = some 16 := by kernel_rfl
theorem by50 : byOf Try.prog 50 = some 16 := by kernel_rfl
theorem by51 : byOf Try.prog 51 = some 8 := by kernel_rfl
theorem by52 : byOf Try.prog 52 = some 8 := by kernel_rfl
theorem by53 : byOf Try.prog 53 = some 8 := by kernel_rfl
theorem by55 : byOf Try.prog 55 = some 8 := by kernel_rfl
theorem by57 : byOf Try.prog 57 = some 8 := by kernel_rfl
theorem by59 : byOf Try.prog 59 = some 24 := by kernel_rfl
theorem by60 : byOf Try.prog 60 = some 24 := by kernel_rfl
theorem by62 : byOf Try.prog 62 = some 8 := by kernel_rfl
theorem by63 : byOf Try.prog 63 = some 8 := by kernel_rfl
theorem by64 : byOf Try.prog 64 = some 8 := by kernel_rfl
theorem by65 : byOf Try.prog 65 = some 8 := by kernel_rfl
theorem by66 : byOf Try.prog 66 = some 8 := by kernel_rfl
theorem by67 : byOf Try.prog 67 = some 8 := by kernel_rfl
theorem by68 : byOf Try.prog 68 = some 8 := by kernel_rfl
theorem by69 : byOf Try.prog 69 = some 8 := by kernel_rfl
theorem by70 : byOf Try.prog 70 = some 8 := by kernel_rfl
theorem by71 : byOf Try.prog 71 = some 8 := by kernel_rfl
theorem by72 : byOf Try.prog 72 = some 8 := by kernel_rfl
theorem by73 : byOf Try.prog 73 = some 40 := by kernel_rfl
theorem by74 : byOf Try.prog 74 = some 40 := by kernel_rfl
theorem by75 : byOf Try.prog 75 = some 0 := by kernel_rfl
theorem by76 : byOf Try.prog 76 = some 0 := by kernel_rfl
theorem by77 : byOf Try.prog 77 = some 0 := by kernel_rfl
theorem by78 : byOf Try.prog 78 = some 8 := by kernel_rfl
theorem by79 : byOf Try.prog 79 = some 4 := by kernel_rfl
theorem by80 : byOf Try.prog 80 = some 1 := by kernel_rfl
theorem by81 : byOf Try.prog 81 = some 1 := by kernel_rfl
theorem by82 : byOf Try.prog 82 = some 8 := by kernel_rfl
theorem by83 : byOf Try.prog 83 = some 8 := by kernel_rfl
theorem by84 : byOf Try.prog 84 = some 4 := by kernel_rfl
theorem by85 : byOf Try.prog 85 = some 4 := by kernel_rfl
theorem by86 : byOf Try.prog 86 = some 48 := by kernel_rfl
theorem by87 : byOf Try.prog 87 = some 48 := by kernel_rfl
theorem eqg7 : Program.eqGuardType Try.prog Try.prog.depth 7 = false := by kernel_rfl
theorem eqg8 : Program.eqGuardType Try.prog Try.prog.depth 8 = false := by kernel_rfl
theorem eqg49 : Program.eqGuardType Try.prog Try.prog.depth 49 = false := by kernel_rfl
theorem eqg50 : Program.eqGuardType Try.prog Try.prog.depth 50 = false := by kernel_rfl
theorem zr3 : zrOf Try.prog 3 = some (some (.int .i64 0)) := by kernel_rfl
theorem zr4 : zrOf Try.prog 4 = some (some (.bool false)) := by kernel_rfl
theorem zr5 : zrOf Try.prog 5 = some (some (.int .u8 0)) := by kernel_rfl
theorem zr6 : zrOf Try.prog 6 = some (some (.int .u8 0)) := by kernel_rfl
theorem zr7 : zrOf Try.prog 7 = some (some (.agg #[.int .i64 0, .int .i64 0, .bool false, .int .u8 0])) := by kernel_rfl
theorem zr8 : zrOf Try.prog 8 = some (some (.agg #[.int .i64 0, .int .i64 0, .bool false, .int .u8 0])) := by kernel_rfl
theorem zr9 : zrOf Try.prog 9 = some (some (.string ⟨#[]⟩)) := by kernel_rfl
theorem zr10 : zrOf Try.prog 10 = some (some (.string ⟨#[]⟩)) := by kernel_rfl
theorem zr11 : zrOf Try.prog 11 = some (some (.string ⟨#[]⟩)) := by kernel_rfl
theorem zr12 : zrOf Try.prog 12 = some (some (.int .u64 0)) := by kernel_rfl
theorem zr13 : zrOf Try.prog 13 = some (some (.agg #[.string ⟨#[]⟩, .int .u64 0])) := by kernel_rfl
theorem zr14 : zrOf Try.prog 14 = some (some (.agg #[.string ⟨#[]⟩, .int .u64 0])) := by kernel_rfl
theorem zr15 : zrOf Try.prog 15 = some (some (.pointer none)) := by kernel_rfl
theorem zr16 : zrOf Try.prog 16 = some (some (.pointer none)) := by kernel_rfl
theorem zr17 : zrOf Try.prog 17 = some (some (.pointer none)) := by kernel_rfl
theorem zr18 : zrOf Try.prog 18 = some (some (.agg #[.pointer none])) := by kernel_rfl
theorem zr19 : zrOf Try.prog 19 = some (some (.agg #[.pointer none])) := by kernel_rfl
theorem zr20 : zrOf Try.prog 20 = some (some (.nilIface)) := by kernel_rfl
theorem zr21 : zrOf Try.prog 21 = some (some (.int .i32 0)) := by kernel_rfl
theorem zr22 : zrOf Try.prog 22 = some (some (.slice none 0 0)) := by kernel_rfl
theorem zr23 : zrOf Try.prog 23 = some (some (.nilFunc)) := by kernel_rfl
theorem zr24 : zrOf Try.prog 24 = some (some (.agg #[.bool false, .slice none 0 0])) := by kernel_rfl
theorem zr25 : zrOf Try.prog 25 = some (some (.agg #[.bool false, .slice none 0 0])) := by kernel_rfl
theorem zr26 : zrOf Try.prog 26 = some (some (.nilFunc)) := by kernel_rfl
theorem zr27 : zrOf Try.prog 27 = some (some (.nilFunc)) := by kernel_rfl
theorem zr28 : zrOf Try.prog 28 = some (some (.nilIface)) := by kernel_rfl
theorem zr29 : zrOf Try.prog 29 = some (some (.nilIface)) := by kernel_rfl
theorem zr31 : zrOf Try.prog 31 = some (some (.nilFunc)) := by kernel_rfl
theorem zr32 : zrOf Try.prog 32 = some (some (.nilFunc)) := by kernel_rfl
theorem zr33 : zrOf Try.prog 33 = some (some (.nilFunc)) := by kernel_rfl
theorem zr34 : zrOf Try.prog 34 = some (some (.int .u64 0)) := by kernel_rfl
theorem zr35 : zrOf Try.prog 35 = some (some (.nilFunc)) := by kernel_rfl
theorem zr36 : zrOf Try.prog 36 = some (some (.nilFunc)) := by kernel_rfl
theorem zr37 : zrOf Try.prog 37 = some (some (.nilFunc)) := by kernel_rfl
theorem zr38 : zrOf Try.prog 38 = some (some (.nilFunc)) := by kernel_rfl
theorem zr39 : zrOf Try.prog 39 = some (some (.int .i64 0)) := by kernel_rfl
theorem zr41 : zrOf Try.prog 41 = some (some (.nilFunc)) := by kernel_rfl
theorem zr42 : zrOf Try.prog 42 = some (some (.nilFunc)) := by kernel_rfl
theorem zr43 : zrOf Try.prog 43 = some (some (.nilFunc)) := by kernel_rfl
theorem zr44 : zrOf Try.prog 44 = some (some (.nilFunc)) := by kernel_rfl
theorem zr45 : zrOf Try.prog 45 = some (some (.nilFunc)) := by kernel_rfl
theorem zr46 : zrOf Try.prog 46 = some (some (.nilFunc)) := by kernel_rfl
theorem zr47 : zrOf Try.prog 47 = some (some (.nilFunc)) := by kernel_rfl
theorem zr48 : zrOf Try.prog 48 = some (some (.int .u64 0)) := by kernel_rfl
theorem zr49 : zrOf Try.prog 49 = some (some (.agg #[.int .i64 0, .int .u64 0])) := by kernel_rfl
theorem zr50 : zrOf Try.prog 50 = some (some (.agg #[.int .i64 0, .int .u64 0])) := by kernel_rfl
theorem zr51 : zrOf Try.prog 51 = some (some (.nilFunc)) := by kernel_rfl
theorem zr52 : zrOf Try.prog 52 = some (some (.nilFunc)) := by kernel_rfl
theorem zr53 : zrOf Try.prog 53 = some (some (.nilFunc)) := by kernel_rfl
theorem zr55 : zrOf Try.prog 55 = some (some (.nilFunc)) := by kernel_rfl
theorem zr57 : zrOf Try.prog 57 = some (some (.pointer none)) := by kernel_rfl
theorem zr59 : zrOf Try.prog 59 = some (some (.agg #[.int .i64 0, .nilIface])) := by kernel_rfl
theorem zr60 : zrOf Try.prog 60 = some (some (.agg #[.int .i64 0, .nilIface])) := by kernel_rfl
theorem zr62 : zrOf Try.prog 62 = some (some (.nilFunc)) := by kernel_rfl
theorem zr63 : zrOf Try.prog 63 = some (some (.nilFunc)) := by kernel_rfl
theorem zr64 : zrOf Try.prog 64 = some (some (.nilFunc)) := by kernel_rfl
theorem zr65 : zrOf Try.prog 65 = some (some (.nilFunc)) := by kernel_rfl
theorem zr66 : zrOf Try.prog 66 = some (some (.nilFunc)) := by kernel_rfl
theorem zr67 : zrOf Try.prog 67 = some (some (.nilFunc)) := by kernel_rfl
theorem zr68 : zrOf Try.prog 68 = some (some (.nilFunc)) := by kernel_rfl
theorem zr69 : zrOf Try.prog 69 = some (some (.nilFunc)) := by kernel_rfl
theorem zr70 : zrOf Try.prog 70 = some (some (.nilFunc)) := by kernel_rfl
theorem zr71 : zrOf Try.prog 71 = some (some (.nilFunc)) := by kernel_rfl
theorem zr72 : zrOf Try.prog 72 = some (some (.nilFunc)) := by kernel_rfl
theorem zr73 : zrOf Try.prog 73 = some (some (.agg #[.pointer none, .pointer none, .pointer none, .string ⟨#[]⟩])) := by kernel_rfl
theorem zr74 : zrOf Try.prog 74 = some (some (.agg #[.pointer none, .pointer none, .pointer none, .string ⟨#[]⟩])) := by kernel_rfl
theorem zr75 : zrOf Try.prog 75 = some (some (.agg #[])) := by kernel_rfl
theorem zr76 : zrOf Try.prog 76 = some (some (.agg #[])) := by kernel_rfl
theorem zr77 : zrOf Try.prog 77 = some (some (.agg #[])) := by kernel_rfl
theorem zr78 : zrOf Try.prog 78 = some (some (.nilFunc)) := by kernel_rfl
theorem zr79 : zrOf Try.prog 79 = some (some (.int .u32 0)) := by kernel_rfl
theorem zr80 : zrOf Try.prog 80 = some (some (.int .u8 0)) := by kernel_rfl
theorem zr81 : zrOf Try.prog 81 = some (some (.int .u8 0)) := by kernel_rfl
theorem zr82 : zrOf Try.prog 82 = some (some (.nilFunc)) := by kernel_rfl
theorem zr83 : zrOf Try.prog 83 = some (some (.pointer none)) := by kernel_rfl
theorem zr84 : zrOf Try.prog 84 = some (some (.int .i32 0)) := by kernel_rfl
theorem zr85 : zrOf Try.prog 85 = some (some (.int .i32 0)) := by kernel_rfl
theorem zr86 : zrOf Try.prog 86 = some (some (.agg #[.int .u64 0, .int .u64 0, .int .u32 0, .int .u8 0, .int .u8 0, .int .u8 0, .int .u8 0, .nilFunc, .pointer none, .int .i32 0, .int .i32 0])) := by kernel_rfl
theorem zr87 : zrOf Try.prog 87 = some (some (.agg #[.int .u64 0, .int .u64 0, .int .u32 0, .int .u8 0, .int .u8 0, .int .u8 0, .int .u8 0, .nilFunc, .pointer none, .int .i32 0, .int .i32 0])) := by kernel_rfl
theorem fa7_0 (a : Addr) (H : Hp) (K : Value → Hp → Prop) : Lt Try.prog (Instr.fieldAt 7 (.pointer (some a)) 0) H K = K (.pointer (some (a.add 0))) H := by
  have h := @fieldAt_one Try.prog 7 _ 0 _ 1 Try.underlying7 rfl sz2 (by decide) a H K
  exact h
theorem fa7_1 (a : Addr) (H : Hp) (K : Value → Hp → Prop) : Lt Try.prog (Instr.fieldAt 7 (.pointer (some a)) 1) H K = K (.pointer (some (a.add 1))) H := by
  have h := @fieldAt_one Try.prog 7 _ 1 _ 1 Try.underlying7 rfl sz3 (by decide) a H K
  exact h
theorem fa7_2 (a : Addr) (H : Hp) (K : Value → Hp → Prop) : Lt Try.prog (Instr.fieldAt 7 (.pointer (some a)) 2) H K = K (.pointer (some (a.add 2))) H := by
  have h := @fieldAt_one Try.prog 7 _ 2 _ 1 Try.underlying7 rfl sz4 (by decide) a H K
  exact h
theorem fa7_3 (a : Addr) (H : Hp) (K : Value → Hp → Prop) : Lt Try.prog (Instr.fieldAt 7 (.pointer (some a)) 3) H K = K (.pointer (some (a.add 3))) H := by
  have h := @fieldAt_one Try.prog 7 _ 3 _ 1 Try.underlying7 rfl sz6 (by decide) a H K
  exact h
theorem fa8_0 (a : Addr) (H : Hp) (K : Value → Hp → Prop) : Lt Try.prog (Instr.fieldAt 8 (.pointer (some a)) 0) H K = K (.pointer (some (a.add 0))) H := by
  have h := @fieldAt_one Try.prog 8 _ 0 _ 1 Try.underlying8 rfl sz2 (by decide) a H K
  exact h
theorem fa8_1 (a : Addr) (H : Hp) (K : Value → Hp → Prop) : Lt Try.prog (Instr.fieldAt 8 (.pointer (some a)) 1) H K = K (.pointer (some (a.add 1))) H := by
  have h := @fieldAt_one Try.prog 8 _ 1 _ 1 Try.underlying8 rfl sz3 (by decide) a H K
  exact h
theorem fa8_2 (a : Addr) (H : Hp) (K : Value → Hp → Prop) : Lt Try.prog (Instr.fieldAt 8 (.pointer (some a)) 2) H K = K (.pointer (some (a.add 2))) H := by
  have h := @fieldAt_one Try.prog 8 _ 2 _ 1 Try.underlying8 rfl sz4 (by decide) a H K
  exact h
theorem fa8_3 (a : Addr) (H : Hp) (K : Value → Hp → Prop) : Lt Try.prog (Instr.fieldAt 8 (.pointer (some a)) 3) H K = K (.pointer (some (a.add 3))) H := by
  have h := @fieldAt_one Try.prog 8 _ 3 _ 1 Try.underlying8 rfl sz6 (by decide) a H K
  exact h
theorem fa13_0 (a : Addr) (H : Hp) (K : Value → Hp → Prop) : Lt Try.prog (Instr.fieldAt 13 (.pointer (some a)) 0) H K = K (.pointer (some (a.add 0))) H := by
  have h := @fieldAt_one Try.prog 13 _ 0 _ 1 Try.underlying13 rfl sz9 (by decide) a H K
  exact h
theorem fa13_1 (a : Addr) (H : Hp) (K : Value → Hp → Prop) : Lt Try.prog (Instr.fieldAt 13 (.pointer (some a)) 1) H K = K (.pointer (some (a.add 1))) H := by
  have h := @fieldAt_one Try.prog 13 _ 1 _ 1 Try.underlying13 rfl sz12 (by decide) a H K
  exact h
theorem fa14_0 (a : Addr) (H : Hp) (K : Value → Hp → Prop) : Lt Try.prog (Instr.fieldAt 14 (.pointer (some a)) 0) H K = K (.pointer (some (a.add 0))) H := by
  have h := @fieldAt_one Try.prog 14 _ 0 _ 1 Try.underlying14 rfl sz9 (by decide) a H K
  exact h
theorem fa14_1 (a : Addr) (H : Hp) (K : Value → Hp → Prop) : Lt Try.prog (Instr.fieldAt 14 (.pointer (some a)) 1) H K = K (.pointer (some (a.add 1))) H := by
  have h := @fieldAt_one Try.prog 14 _ 1 _ 1 Try.underlying14 rfl sz12 (by decide) a H K
  exact h
theorem fa18_0 (a : Addr) (H : Hp) (K : Value → Hp → Prop) : Lt Try.prog (Instr.fieldAt 18 (.pointer (some a)) 0) H K = K (.pointer (some (a.add 0))) H := by
  have h := @fieldAt_one Try.prog 18 _ 0 _ 1 Try.underlying18 rfl sz17 (by decide) a H K
  exact h
theorem fa19_0 (a : Addr) (H : Hp) (K : Value → Hp → Prop) : Lt Try.prog (Instr.fieldAt 19 (.pointer (some a)) 0) H K = K (.pointer (some (a.add 0))) H := by
  have h := @fieldAt_one Try.prog 19 _ 0 _ 1 Try.underlying19 rfl sz17 (by decide) a H K
  exact h
theorem fa24_0 (a : Addr) (H : Hp) (K : Value → Hp → Prop) : Lt Try.prog (Instr.fieldAt 24 (.pointer (some a)) 0) H K = K (.pointer (some (a.add 0))) H := by
  have h := @fieldAt_one Try.prog 24 _ 0 _ 1 Try.underlying24 rfl sz4 (by decide) a H K
  exact h
theorem fa24_1 (a : Addr) (H : Hp) (K : Value → Hp → Prop) : Lt Try.prog (Instr.fieldAt 24 (.pointer (some a)) 1) H K = K (.pointer (some (a.add 1))) H := by
  have h := @fieldAt_one Try.prog 24 _ 1 _ 1 Try.underlying24 rfl sz22 (by decide) a H K
  exact h
theorem fa25_0 (a : Addr) (H : Hp) (K : Value → Hp → Prop) : Lt Try.prog (Instr.fieldAt 25 (.pointer (some a)) 0) H K = K (.pointer (some (a.add 0))) H := by
  have h := @fieldAt_one Try.prog 25 _ 0 _ 1 Try.underlying25 rfl sz4 (by decide) a H K
  exact h
theorem fa25_1 (a : Addr) (H : Hp) (K : Value → Hp → Prop) : Lt Try.prog (Instr.fieldAt 25 (.pointer (some a)) 1) H K = K (.pointer (some (a.add 1))) H := by
  have h := @fieldAt_one Try.prog 25 _ 1 _ 1 Try.underlying25 rfl sz22 (by decide) a H K
  exact h
theorem fa49_0 (a : Addr) (H : Hp) (K : Value → Hp → Prop) : Lt Try.prog (Instr.fieldAt 49 (.pointer (some a)) 0) H K = K (.pointer (some (a.add 0))) H := by
  have h := @fieldAt_one Try.prog 49 _ 0 _ 1 Try.underlying49 rfl sz3 (by decide) a H K
  exact h
theorem fa49_1 (a : Addr) (H : Hp) (K : Value → Hp → Prop) : Lt Try.prog (Instr.fieldAt 49 (.pointer (some a)) 1) H K = K (.pointer (some (a.add 1))) H := by
  have h := @fieldAt_one Try.prog 49 _ 1 _ 1 Try.underlying49 rfl sz48 (by decide) a H K
  exact h
theorem fa50_0 (a : Addr) (H : Hp) (K : Value → Hp → Prop) : Lt Try.prog (Instr.fieldAt 50 (.pointer (some a)) 0) H K = K (.pointer (some (a.add 0))) H := by
  have h := @fieldAt_one Try.prog 50 _ 0 _ 1 Try.underlying50 rfl sz3 (by decide) a H K
  exact h
theorem fa50_1 (a : Addr) (H : Hp) (K : Value → Hp → Prop) : Lt Try.prog (Instr.fieldAt 50 (.pointer (some a)) 1) H K = K (.pointer (some (a.add 1))) H := by
  have h := @fieldAt_one Try.prog 50 _ 1 _ 1 Try.underlying50 rfl sz48 (by decide) a H K
  exact h
theorem fa59_0 (a : Addr) (H : Hp) (K : Value → Hp → Prop) : Lt Try.prog (Instr.fieldAt 59 (.pointer (some a)) 0) H K = K (.pointer (some (a.add 0))) H := by
  have h := @fieldAt_one Try.prog 59 _ 0 _ 1 Try.underlying59 rfl sz3 (by decide) a H K
  exact h
theorem fa59_1 (a : Addr) (H : Hp) (K : Value → Hp → Prop) : Lt Try.prog (Instr.fieldAt 59 (.pointer (some a)) 1) H K = K (.pointer (some (a.add 1))) H := by
  have h := @fieldAt_one Try.prog 59 _ 1 _ 1 Try.underlying59 rfl sz29 (by decide) a H K
  exact h
theorem fa60_0 (a : Addr) (H : Hp) (K : Value → Hp → Prop) : Lt Try.prog (Instr.fieldAt 60 (.pointer (some a)) 0) H K = K (.pointer (some (a.add 0))) H := by
  have h := @fieldAt_one Try.prog 60 _ 0 _ 1 Try.underlying60 rfl sz3 (by decide) a H K
  exact h
theorem fa60_1 (a : Addr) (H : Hp) (K : Value → Hp → Prop) : Lt Try.prog (Instr.fieldAt 60 (.pointer (some a)) 1) H K = K (.pointer (some (a.add 1))) H := by
  have h := @fieldAt_one Try.prog 60 _ 1 _ 1 Try.underlying60 rfl sz29 (by decide) a H K
  exact h
theorem fa73_0 (a : Addr) (H : Hp) (K : Value → Hp → Prop) : Lt Try.prog (Instr.fieldAt 73 (.pointer (some a)) 0) H K = K (.pointer (some (a.add 0))) H := by
  have h := @fieldAt_one Try.prog 73 _ 0 _ 1 Try.underlying73 rfl sz17 (by decide) a H K
  exact h
theorem fa73_1 (a : Addr) (H : Hp) (K : Value → Hp → Prop) : Lt Try.prog (Instr.fieldAt 73 (.pointer (some a)) 1) H K = K (.pointer (some (a.add 1))) H := by
  have h := @fieldAt_one Try.prog 73 _ 1 _ 1 Try.underlying73 rfl sz17 (by decide) a H K
  exact h
theorem fa73_2 (a : Addr) (H : Hp) (K : Value → Hp → Prop) : Lt Try.prog (Instr.fieldAt 73 (.pointer (some a)) 2) H K = K (.pointer (some (a.add 2))) H := by
  have h := @fieldAt_one Try.prog 73 _ 2 _ 1 Try.underlying73 rfl sz17 (by decide) a H K
  exact h
theorem fa73_3 (a : Addr) (H : Hp) (K : Value → Hp → Prop) : Lt Try.prog (Instr.fieldAt 73 (.pointer (some a)) 3) H K = K (.pointer (some (a.add 3))) H := by
  have h := @fieldAt_one Try.prog 73 _ 3 _ 1 Try.underlying73 rfl sz9 (by decide) a H K
  exact h
theorem fa74_0 (a : Addr) (H : Hp) (K : Value → Hp → Prop) : Lt Try.prog (Instr.fieldAt 74 (.pointer (some a)) 0) H K = K (.pointer (some (a.add 0))) H := by
  have h := @fieldAt_one Try.prog 74 _ 0 _ 1 Try.underlying74 rfl sz17 (by decide) a H K
  exact h
theorem fa74_1 (a : Addr) (H : Hp) (K : Value → Hp → Prop) : Lt Try.prog (Instr.fieldAt 74 (.pointer (some a)) 1) H K = K (.pointer (some (a.add 1))) H := by
  have h := @fieldAt_one Try.prog 74 _ 1 _ 1 Try.underlying74 rfl sz17 (by decide) a H K
  exact h
theorem fa74_2 (a : Addr) (H : Hp) (K : Value → Hp → Prop) : Lt Try.prog (Instr.fieldAt 74 (.pointer (some a)) 2) H K = K (.pointer (some (a.add 2))) H := by
  have h := @fieldAt_one Try.prog 74 _ 2 _ 1 Try.underlying74 rfl sz17 (by decide) a H K
  exact h
theorem fa74_3 (a : Addr) (H : Hp) (K : Value → Hp → Prop) : Lt Try.prog (Instr.fieldAt 74 (.pointer (some a)) 3) H K = K (.pointer (some (a.add 3))) H := by
  have h := @fieldAt_one Try.prog 74 _ 3 _ 1 Try.underlying74 rfl sz9 (by decide) a H K
  exact h
theorem fa86_0 (a : Addr) (H : Hp) (K : Value → Hp → Prop) : Lt Try.prog (Instr.fieldAt 86 (.pointer (some a)) 0) H K = K (.pointer (some (a.add 0))) H := by
  have h := @fieldAt_one Try.prog 86 _ 0 _ 1 Try.underlying86 rfl sz12 (by decide) a H K
  exact h
theorem fa86_1 (a : Addr) (H : Hp) (K : Value → Hp → Prop) : Lt Try.prog (Instr.fieldAt 86 (.pointer (some a)) 1) H K = K (.pointer (some (a.add 1))) H := by
  have h := @fieldAt_one Try.prog 86 _ 1 _ 1 Try.underlying86 rfl sz12 (by decide) a H K
  exact h
theorem fa86_2 (a : Addr) (H : Hp) (K : Value → Hp → Prop) : Lt Try.prog (Instr.fieldAt 86 (.pointer (some a)) 2) H K = K (.pointer (some (a.add 2))) H := by
  have h := @fieldAt_one Try.prog 86 _ 2 _ 1 Try.underlying86 rfl sz79 (by decide) a H K
  exact h
theorem fa86_3 (a : Addr) (H : Hp) (K : Value → Hp → Prop) : Lt Try.prog (Instr.fieldAt 86 (.pointer (some a)) 3) H K = K (.pointer (some (a.add 3))) H := by
  have h := @fieldAt_one Try.prog 86 _ 3 _ 1 Try.underlying86 rfl sz80 (by decide) a H K
  exact h
theorem fa86_4 (a : Addr) (H : Hp) (K : Value → Hp → Prop) : Lt Try.prog (Instr.fieldAt 86 (.pointer (some a)) 4) H K = K (.pointer (some (a.add 4))) H := by
  have h := @fieldAt_one Try.prog 86 _ 4 _ 1 Try.underlying86 rfl sz5 (by decide) a H K
  exact h
theorem fa86_5 (a : Addr) (H : Hp) (K : Value → Hp → Prop) : Lt Try.prog (Instr.fieldAt 86 (.pointer (some a)) 5) H K = K (.pointer (some (a.add 5))) H := by
  have h := @fieldAt_one Try.prog 86 _ 5 _ 1 Try.underlying86 rfl sz5 (by decide) a H K
  exact h
theorem fa86_6 (a : Addr) (H : Hp) (K : Value → Hp → Prop) : Lt Try.prog (Instr.fieldAt 86 (.pointer (some a)) 6) H K = K (.pointer (some (a.add 6))) H := by
  have h := @fieldAt_one Try.prog 86 _ 6 _ 1 Try.underlying86 rfl sz81 (by decide) a H K
  exact h
theorem fa86_7 (a : Addr) (H : Hp) (K : Value → Hp → Prop) : Lt Try.prog (Instr.fieldAt 86 (.pointer (some a)) 7) H K = K (.pointer (some (a.add 7))) H := by
  have h := @fieldAt_one Try.prog 86 _ 7 _ 1 Try.underlying86 rfl sz82 (by decide) a H K
  exact h
theorem fa86_8 (a : Addr) (H : Hp) (K : Value → Hp → Prop) : Lt Try.prog (Instr.fieldAt 86 (.pointer (some a)) 8) H K = K (.pointer (some (a.add 8))) H := by
  have h := @fieldAt_one Try.prog 86 _ 8 _ 1 Try.underlying86 rfl sz83 (by decide) a H K
  exact h
theorem fa86_9 (a : Addr) (H : Hp) (K : Value → Hp → Prop) : Lt Try.prog (Instr.fieldAt 86 (.pointer (some a)) 9) H K = K (.pointer (some (a.add 9))) H := by
  have h := @fieldAt_one Try.prog 86 _ 9 _ 1 Try.underlying86 rfl sz84 (by decide) a H K
  exact h
theorem fa86_10 (a : Addr) (H : Hp) (K : Value → Hp → Prop) : Lt Try.prog (Instr.fieldAt 86 (.pointer (some a)) 10) H K = K (.pointer (some (a.add 10))) H := by
  have h := @fieldAt_one Try.prog 86 _ 10 _ 1 Try.underlying86 rfl sz85 (by decide) a H K
  exact h
theorem fa87_0 (a : Addr) (H : Hp) (K : Value → Hp → Prop) : Lt Try.prog (Instr.fieldAt 87 (.pointer (some a)) 0) H K = K (.pointer (some (a.add 0))) H := by
  have h := @fieldAt_one Try.prog 87 _ 0 _ 1 Try.underlying87 rfl sz12 (by decide) a H K
  exact h
theorem fa87_1 (a : Addr) (H : Hp) (K : Value → Hp → Prop) : Lt Try.prog (Instr.fieldAt 87 (.pointer (some a)) 1) H K = K (.pointer (some (a.add 1))) H := by
  have h := @fieldAt_one Try.prog 87 _ 1 _ 1 Try.underlying87 rfl sz12 (by decide) a H K
  exact h
theorem fa87_2 (a : Addr) (H : Hp) (K : Value → Hp → Prop) : Lt Try.prog (Instr.fieldAt 87 (.pointer (some a)) 2) H K = K (.pointer (some (a.add 2))) H := by
  have h := @fieldAt_one Try.prog 87 _ 2 _ 1 Try.underlying87 rfl sz79 (by decide) a H K
  exact h
theorem fa87_3 (a : Addr) (H : Hp) (K : Value → Hp → Prop) : Lt Try.prog (Instr.fieldAt 87 (.pointer (some a)) 3) H K = K (.pointer (some (a.add 3))) H := by
  have h := @fieldAt_one Try.prog 87 _ 3 _ 1 Try.underlying87 rfl sz80 (by decide) a H K
  exact h
theorem fa87_4 (a : Addr) (H : Hp) (K : Value → Hp → Prop) : Lt Try.prog (Instr.fieldAt 87 (.pointer (some a)) 4) H K = K (.pointer (some (a.add 4))) H := by
  have h := @fieldAt_one Try.prog 87 _ 4 _ 1 Try.underlying87 rfl sz5 (by decide) a H K
  exact h
theorem fa87_5 (a : Addr) (H : Hp) (K : Value → Hp → Prop) : Lt Try.prog (Instr.fieldAt 87 (.pointer (some a)) 5) H K = K (.pointer (some (a.add 5))) H := by
  have h := @fieldAt_one Try.prog 87 _ 5 _ 1 Try.underlying87 rfl sz5 (by decide) a H K
  exact h
theorem fa87_6 (a : Addr) (H : Hp) (K : Value → Hp → Prop) : Lt Try.prog (Instr.fieldAt 87 (.pointer (some a)) 6) H K = K (.pointer (some (a.add 6))) H := by
  have h := @fieldAt_one Try.prog 87 _ 6 _ 1 Try.underlying87 rfl sz81 (by decide) a H K
  exact h
theorem fa87_7 (a : Addr) (H : Hp) (K : Value → Hp → Prop) : Lt Try.prog (Instr.fieldAt 87 (.pointer (some a)) 7) H K = K (.pointer (some (a.add 7))) H := by
  have h := @fieldAt_one Try.prog 87 _ 7 _ 1 Try.underlying87 rfl sz82 (by decide) a H K
  exact h
theorem fa87_8 (a : Addr) (H : Hp) (K : Value → Hp → Prop) : Lt Try.prog (Instr.fieldAt 87 (.pointer (some a)) 8) H K = K (.pointer (some (a.add 8))) H := by
  have h := @fieldAt_one Try.prog 87 _ 8 _ 1 Try.underlying87 rfl sz83 (by decide) a H K
  exact h
theorem fa87_9 (a : Addr) (H : Hp) (K : Value → Hp → Prop) : Lt Try.prog (Instr.fieldAt 87 (.pointer (some a)) 9) H K = K (.pointer (some (a.add 9))) H := by
  have h := @fieldAt_one Try.prog 87 _ 9 _ 1 Try.underlying87 rfl sz84 (by decide) a H K
  exact h
theorem fa87_10 (a : Addr) (H : Hp) (K : Value → Hp → Prop) : Lt Try.prog (Instr.fieldAt 87 (.pointer (some a)) 10) H K = K (.pointer (some (a.add 10))) H := by
  have h := @fieldAt_one Try.prog 87 _ 10 _ 1 Try.underlying87 rfl sz85 (by decide) a H K
  exact h
theorem bp7 (ps : Array (Nat × Value)) (H : Hp) (K : Value → Hp → Prop) : Lt Try.prog (Instr.build 7 ps) H K = orF (Instr.fill (#[(0, 1), (1, 1), (2, 1), (3, 1)][·]?) #[.int .i64 0, .int .i64 0, .bool false, .int .u8 0] ps.toList) (fun c => K (.agg c) H) := by
  simp only [Instr.build, l_bind, l_zero, zr7, orF_some, l_und, Try.underlying7]
  simp [l_bind, l_pure, l_size, sz2, sz3, sz4, sz6, orF_some, l_map, Value.cells]
  cases Instr.fill _ _ _ <;> rfl
theorem bp8 (ps : Array (Nat × Value)) (H : Hp) (K : Value → Hp → Prop) : Lt Try.prog (Instr.build 8 ps) H K = orF (Instr.fill (#[(0, 1), (1, 1), (2, 1), (3, 1)][·]?) #[.int .i64 0, .int .i64 0, .bool false, .int .u8 0] ps.toList) (fun c => K (.agg c) H) := by
  simp only [Instr.build, l_bind, l_zero, zr8, orF_some, l_und, Try.underlying8]
  simp [l_bind, l_pure, l_size, sz2, sz3, sz4, sz6, orF_some, l_map, Value.cells]
  cases Instr.fill _ _ _ <;> rfl
theorem bp13 (ps : Array (Nat × Value)) (H : Hp) (K : Value → Hp → Prop) : Lt Try.prog (Instr.build 13 ps) H K = orF (Instr.fill (#[(0, 1), (1, 1)][·]?) #[.string ⟨#[]⟩, .int .u64 0] ps.toList) (fun c => K (.agg c) H) := by
  simp only [Instr.build, l_bind, l_zero, zr13, orF_some, l_und, Try.underlying13]
  simp [l_bind, l_pure, l_size, sz9, sz12, orF_some, l_map, Value.cells]
  cases Instr.fill _ _ _ <;> rfl
theorem bp14 (ps : Array (Nat × Value)) (H : Hp) (K : Value → Hp → Prop) : Lt Try.prog (Instr.build 14 ps) H K = orF (Instr.fill (#[(0, 1), (1, 1)][·]?) #[.string ⟨#[]⟩, .int .u64 0] ps.toList) (fun c => K (.agg c) H) := by
  simp only [Instr.build, l_bind, l_zero, zr14, orF_some, l_und, Try.underlying14]
  simp [l_bind, l_pure, l_size, sz9, sz12, orF_some, l_map, Value.cells]
  cases Instr.fill _ _ _ <;> rfl
theorem bp18 (ps : Array (Nat × Value)) (H : Hp) (K : Value → Hp → Prop) : Lt Try.prog (Instr.build 18 ps) H K = orF (Instr.fill (#[(0, 1)][·]?) #[.pointer none] ps.toList) (fun c => K (.agg c) H) := by
  simp only [Instr.build, l_bind, l_zero, zr18, orF_some, l_und, Try.underlying18]
  simp [l_bind, l_pure, l_size, sz17, orF_some, l_map, Value.cells]
  cases Instr.fill _ _ _ <;> rfl
theorem bp19 (ps : Array (Nat × Value)) (H : Hp) (K : Value → Hp → Prop) : Lt Try.prog (Instr.build 19 ps) H K = orF (Instr.fill (#[(0, 1)][·]?) #[.pointer none] ps.toList) (fun c => K (.agg c) H) := by
  simp only [Instr.build, l_bind, l_zero, zr19, orF_some, l_und, Try.underlying19]
  simp [l_bind, l_pure, l_size, sz17, orF_some, l_map, Value.cells]
  cases Instr.fill _ _ _ <;> rfl
theorem bp24 (ps : Array (Nat × Value)) (H : Hp) (K : Value → Hp → Prop) : Lt Try.prog (Instr.build 24 ps) H K = orF (Instr.fill (#[(0, 1), (1, 1)][·]?) #[.bool false, .slice none 0 0] ps.toList) (fun c => K (.agg c) H) := by
  simp only [Instr.build, l_bind, l_zero, zr24, orF_some, l_und, Try.underlying24]
  simp [l_bind, l_pure, l_size, sz4, sz22, orF_some, l_map, Value.cells]
  cases Instr.fill _ _ _ <;> rfl
theorem bp25 (ps : Array (Nat × Value)) (H : Hp) (K : Value → Hp → Prop) : Lt Try.prog (Instr.build 25 ps) H K = orF (Instr.fill (#[(0, 1), (1, 1)][·]?) #[.bool false, .slice none 0 0] ps.toList) (fun c => K (.agg c) H) := by
  simp only [Instr.build, l_bind, l_zero, zr25, orF_some, l_und, Try.underlying25]
  simp [l_bind, l_pure, l_size, sz4, sz22, orF_some, l_map, Value.cells]
  cases Instr.fill _ _ _ <;> rfl
theorem bp49 (ps : Array (Nat × Value)) (H : Hp) (K : Value → Hp → Prop) : Lt Try.prog (Instr.build 49 ps) H K = orF (Instr.fill (#[(0, 1), (1, 1)][·]?) #[.int .i64 0, .int .u64 0] ps.toList) (fun c => K (.agg c) H) := by
  simp only [Instr.build, l_bind, l_zero, zr49, orF_some, l_und, Try.underlying49]
  simp [l_bind, l_pure, l_size, sz3, sz48, orF_some, l_map, Value.cells]
  cases Instr.fill _ _ _ <;> rfl
theorem bp50 (ps : Array (Nat × Value)) (H : Hp) (K : Value → Hp → Prop) : Lt Try.prog (Instr.build 50 ps) H K = orF (Instr.fill (#[(0, 1), (1, 1)][·]?) #[.int .i64 0, .int .u64 0] ps.toList) (fun c => K (.agg c) H) := by
  simp only [Instr.build, l_bind, l_zero, zr50, orF_some, l_und, Try.underlying50]
  simp [l_bind, l_pure, l_size, sz3, sz48, orF_some, l_map, Value.cells]
  cases Instr.fill _ _ _ <;> rfl
theorem bp59 (ps : Array (Nat × Value)) (H : Hp) (K : Value → Hp → Prop) : Lt Try.prog (Instr.build 59 ps) H K = orF (Instr.fill (#[(0, 1), (1, 1)][·]?) #[.int .i64 0, .nilIface] ps.toList) (fun c => K (.agg c) H) := by
  simp only [Instr.build, l_bind, l_zero, zr59, orF_some, l_und, Try.underlying59]
  simp [l_bind, l_pure, l_size, sz3, sz29, orF_some, l_map, Value.cells]
  cases Instr.fill _ _ _ <;> rfl
theorem bp60 (ps : Array (Nat × Value)) (H : Hp) (K : Value → Hp → Prop) : Lt Try.prog (Instr.build 60 ps) H K = orF (Instr.fill (#[(0, 1), (1, 1)][·]?) #[.int .i64 0, .nilIface] ps.toList) (fun c => K (.agg c) H) := by
  simp only [Instr.build, l_bind, l_zero, zr60, orF_some, l_und, Try.underlying60]
  simp [l_bind, l_pure, l_size, sz3, sz29, orF_some, l_map, Value.cells]
  cases Instr.fill _ _ _ <;> rfl
theorem bp73 (ps : Array (Nat × Value)) (H : Hp) (K : Value → Hp → Prop) : Lt Try.prog (Instr.build 73 ps) H K = orF (Instr.fill (#[(0, 1), (1, 1), (2, 1), (3, 1)][·]?) #[.pointer none, .pointer none, .pointer none, .string ⟨#[]⟩] ps.toList) (fun c => K (.agg c) H) := by
  simp only [Instr.build, l_bind, l_zero, zr73, orF_some, l_und, Try.underlying73]
  simp [l_bind, l_pure, l_size, sz9, sz17, orF_some, l_map, Value.cells]
  cases Instr.fill _ _ _ <;> rfl
theorem bp74 (ps : Array (Nat × Value)) (H : Hp) (K : Value → Hp → Prop) : Lt Try.prog (Instr.build 74 ps) H K = orF (Instr.fill (#[(0, 1), (1, 1), (2, 1), (3, 1)][·]?) #[.pointer none, .pointer none, .pointer none, .string ⟨#[]⟩] ps.toList) (fun c => K (.agg c) H) := by
  simp only [Instr.build, l_bind, l_zero, zr74, orF_some, l_und, Try.underlying74]
  simp [l_bind, l_pure, l_size, sz9, sz17, orF_some, l_map, Value.cells]
  cases Instr.fill _ _ _ <;> rfl
theorem bp76 (ps : Array (Nat × Value)) (H : Hp) (K : Value → Hp → Prop) : Lt Try.prog (Instr.build 76 ps) H K = orF (Instr.fill (#[(0, 0)][·]?) #[] ps.toList) (fun c => K (.agg c) H) := by
  simp only [Instr.build, l_bind, l_zero, zr76, orF_some, l_und, Try.underlying76]
  simp [l_bind, l_pure, l_size, sz75, orF_some, l_map, Value.cells]
  cases Instr.fill _ _ _ <;> rfl
theorem bp77 (ps : Array (Nat × Value)) (H : Hp) (K : Value → Hp → Prop) : Lt Try.prog (Instr.build 77 ps) H K = orF (Instr.fill (#[(0, 0)][·]?) #[] ps.toList) (fun c => K (.agg c) H) := by
  simp only [Instr.build, l_bind, l_zero, zr77, orF_some, l_und, Try.underlying77]
  simp [l_bind, l_pure, l_size, sz75, orF_some, l_map, Value.cells]
  cases Instr.fill _ _ _ <;> rfl
theorem bp86 (ps : Array (Nat × Value)) (H : Hp) (K : Value → Hp → Prop) : Lt Try.prog (Instr.build 86 ps) H K = orF (Instr.fill (#[(0, 1), (1, 1), (2, 1), (3, 1), (4, 1), (5, 1), (6, 1), (7, 1), (8, 1), (9, 1), (10, 1)][·]?) #[.int .u64 0, .int .u64 0, .int .u32 0, .int .u8 0, .int .u8 0, .int .u8 0, .int .u8 0, .nilFunc, .pointer none, .int .i32 0, .int .i32 0] ps.toList) (fun c => K (.agg c) H) := by
  simp only [Instr.build, l_bind, l_zero, zr86, orF_some, l_und, Try.underlying86]
  simp [l_bind, l_pure, l_size, sz5, sz12, sz79, sz80, sz81, sz82, sz83, sz84, sz85, orF_some, l_map, Value.cells]
  cases Instr.fill _ _ _ <;> rfl
theorem bp87 (ps : Array (Nat × Value)) (H : Hp) (K : Value → Hp → Prop) : Lt Try.prog (Instr.build 87 ps) H K = orF (Instr.fill (#[(0, 1), (1, 1), (2, 1), (3, 1), (4, 1), (5, 1), (6, 1), (7, 1), (8, 1), (9, 1), (10, 1)][·]?) #[.int .u64 0, .int .u64 0, .int .u32 0, .int .u8 0, .int .u8 0, .int .u8 0, .int .u8 0, .nilFunc, .pointer none, .int .i32 0, .int .i32 0] ps.toList) (fun c => K (.agg c) H) := by
  simp only [Instr.build, l_bind, l_zero, zr87, orF_some, l_und, Try.underlying87]
  simp [l_bind, l_pure, l_size, sz5, sz12, sz79, sz80, sz81, sz82, sz83, sz84, sz85, orF_some, l_map, Value.cells]
  cases Instr.fill _ _ _ <;> rfl
theorem qs49 (a0 a1 b0 b1 : Int) (H : Hp) (K : Bool → Hp → Prop) : Lt Try.prog (Op.equalIn (9999 + 1) 49 (.agg #[.int .i64 a0, .int .u64 a1]) (.agg #[.int .i64 b0, .int .u64 b1])) H K = K (decide (a0 = b0) && decide (a1 = b1)) H := q_struct2 9998 49 Try.underlying49 (by kernel_rfl) ⟨by decide, rfl⟩ ⟨by decide, rfl⟩ Try.underlying3 Try.underlying48 a0 a1 b0 b1 K
theorem qs50 (a0 a1 b0 b1 : Int) (H : Hp) (K : Bool → Hp → Prop) : Lt Try.prog (Op.equalIn (9999 + 1) 50 (.agg #[.int .i64 a0, .int .u64 a1]) (.agg #[.int .i64 b0, .int .u64 b1])) H K = K (decide (a0 = b0) && decide (a1 = b1)) H := q_struct2 9998 50 Try.underlying50 (by kernel_rfl) ⟨by decide, rfl⟩ ⟨by decide, rfl⟩ Try.underlying3 Try.underlying48 a0 a1 b0 b1 K
theorem flk7 : flatK Try.prog 8 7 = some [some .i64, some .i64, none, some .u8] := by kernel_rfl
theorem qfl7 (xs ys : List Value) (fx : Fit [some .i64, some .i64, none, some .u8] xs) (fy : Fit [some .i64, some .i64, none, some .u8] ys) {H : Hp} {K : Bool → Hp → Prop} : Lt Try.prog (Op.equalIn (9999 + 1) 7 (.agg xs.toArray) (.agg ys.toArray)) H K = K (eqV xs ys) H := by
  have h := q_flat 8 7 _ flk7 (9999 + 1) (by omega) xs ys fx fy H K
  have e : ∀ zs, wrapT Try.prog 7 zs = .agg zs.toArray := fun zs => by unfold wrapT; rw [Try.underlying7]; rfl
  rw [e, e] at h; exact h
theorem flk8 : flatK Try.prog 8 8 = some [some .i64, some .i64, none, some .u8] := by kernel_rfl
theorem qfl8 (xs ys : List Value) (fx : Fit [some .i64, some .i64, none, some .u8] xs) (fy : Fit [some .i64, some .i64, none, some .u8] ys) {H : Hp} {K : Bool → Hp → Prop} : Lt Try.prog (Op.equalIn (9999 + 1) 8 (.agg xs.toArray) (.agg ys.toArray)) H K = K (eqV xs ys) H := by
  have h := q_flat 8 8 _ flk8 (9999 + 1) (by omega) xs ys fx fy H K
  have e : ∀ zs, wrapT Try.prog 8 zs = .agg zs.toArray := fun zs => by unfold wrapT; rw [Try.underlying8]; rfl
  rw [e, e] at h; exact h
theorem flk49 : flatK Try.prog 8 49 = some [some .i64, some .u64] := by kernel_rfl
theorem qfl49 (xs ys : List Value) (fx : Fit [some .i64, some .u64] xs) (fy : Fit [some .i64, some .u64] ys) {H : Hp} {K : Bool → Hp → Prop} : Lt Try.prog (Op.equalIn (9999 + 1) 49 (.agg xs.toArray) (.agg ys.toArray)) H K = K (eqV xs ys) H := by
  have h := q_flat 8 49 _ flk49 (9999 + 1) (by omega) xs ys fx fy H K
  have e : ∀ zs, wrapT Try.prog 49 zs = .agg zs.toArray := fun zs => by unfold wrapT; rw [Try.underlying49]; rfl
  rw [e, e] at h; exact h
theorem flk50 : flatK Try.prog 8 50 = some [some .i64, some .u64] := by kernel_rfl
theorem qfl50 (xs ys : List Value) (fx : Fit [some .i64, some .u64] xs) (fy : Fit [some .i64, some .u64] ys) {H : Hp} {K : Bool → Hp → Prop} : Lt Try.prog (Op.equalIn (9999 + 1) 50 (.agg xs.toArray) (.agg ys.toArray)) H K = K (eqV xs ys) H := by
  have h := q_flat 8 50 _ flk50 (9999 + 1) (by omega) xs ys fx fy H K
  have e : ∀ zs, wrapT Try.prog 50 zs = .agg zs.toArray := fun zs => by unfold wrapT; rw [Try.underlying50]; rfl
  rw [e, e] at h; exact h
theorem xc42 {H : Hp} {e : Env} {r : Nat → Value} {d : Option Nat} {ty : TypeId} {p : String} {af : Array Edge} {g : Option (Nat × Bool)} (args : Array Operand) (ts : Array TypeId) (K : Next → Hp → Prop) : Lt Try.prog (execOp (ev e r) ⟨d, .call ⟨.value (.func 42), args, ts⟩, ty, p, af, g⟩) H K = Lt Try.prog (add64Entry (args.map (ev e r))) H (fun v H' => K (.value v) H') := x_callE Try.func42 (by kernel_rfl) (by kernel_rfl) (by kernel_rfl) (by kernel_rfl) args ts K
theorem bd3 : bodied Try.prog 3 = true := by kernel_rfl
theorem bd4 : bodied Try.prog 4 = true := by kernel_rfl
theorem bd5 : bodied Try.prog 5 = true := by kernel_rfl
theorem bd6 : bodied Try.prog 6 = true := by kernel_rfl
theorem bd7 : bodied Try.prog 7 = true := by kernel_rfl
theorem bd8 : bodied Try.prog 8 = true := by kernel_rfl
theorem bd9 : bodied Try.prog 9 = true := by kernel_rfl
theorem bd10 : bodied Try.prog 10 = true := by kernel_rfl
theorem bd11 : bodied Try.prog 11 = true := by kernel_rfl
theorem bd12 : bodied Try.prog 12 = true := by kernel_rfl
theorem bd13 : bodied Try.prog 13 = true := by kernel_rfl
theorem bd14 : bodied Try.prog 14 = true := by kernel_rfl
theorem bd15 : bodied Try.prog 15 = true := by kernel_rfl
theorem bd16 : bodied Try.prog 16 = true := by kernel_rfl
theorem bd17 : bodied Try.prog 17 = true := by kernel_rfl
theorem bd18 : bodied Try.prog 18 = true := by kernel_rfl
theorem bd19 : bodied Try.prog 19 = true := by kernel_rfl
theorem bd20 : bodied Try.prog 20 = true := by kernel_rfl
theorem bd21 : bodied Try.prog 21 = true := by kernel_rfl
theorem bd22 : bodied Try.prog 22 = true := by kernel_rfl
theorem bd23 : bodied Try.prog 23 = true := by kernel_rfl
theorem bd24 : bodied Try.prog 24 = true := by kernel_rfl
theorem bd25 : bodied Try.prog 25 = true := by kernel_rfl
theorem bd26 : bodied Try.prog 26 = true := by kernel_rfl
theorem bd27 : bodied Try.prog 27 = true := by kernel_rfl
theorem bd28 : bodied Try.prog 28 = true := by kernel_rfl
theorem bd29 : bodied Try.prog 29 = true := by kernel_rfl
theorem bd30 : bodied Try.prog 30 = true := by kernel_rfl
theorem bd31 : bodied Try.prog 31 = true := by kernel_rfl
theorem bd32 : bodied Try.prog 32 = true := by kernel_rfl
theorem bd33 : bodied Try.prog 33 = true := by kernel_rfl
theorem bd34 : bodied Try.prog 34 = true := by kernel_rfl
theorem bd35 : bodied Try.prog 35 = true := by kernel_rfl
theorem bd36 : bodied Try.prog 36 = true := by kernel_rfl
theorem bd37 : bodied Try.prog 37 = true := by kernel_rfl
theorem bd38 : bodied Try.prog 38 = true := by kernel_rfl
theorem bd39 : bodied Try.prog 39 = true := by kernel_rfl
theorem bd40 : bodied Try.prog 40 = true := by kernel_rfl
theorem bd41 : bodied Try.prog 41 = true := by kernel_rfl
theorem bd43 : bodied Try.prog 43 = true := by kernel_rfl
theorem bd44 : bodied Try.prog 44 = true := by kernel_rfl
theorem bd45 : bodied Try.prog 45 = true := by kernel_rfl
theorem bd46 : bodied Try.prog 46 = true := by kernel_rfl
theorem bd47 : bodied Try.prog 47 = true := by kernel_rfl
end Go.Proofs.Ytbeepknfcjejkaa.HL
