/- Facts on the types of the program, as the proof uses them. -/
import Derived.Test.YtlkopcgoaldpeaaHLApi
import Derived.Test.YtlkopcgoaldpeaaHLShort
import Derived.Test.YtlkopcgoaldpeaaProg
import Derived.KernelRfl
namespace Go.Proofs.Ytlkopcgoaldpeaa.HL
open Go Go.Proofs Go.Proofs.Ytlkopcgoaldpeaa.HL
set_option linter.unusedSimpArgs false
set_option linter.unusedVariables false
theorem sz2 : szOf Try.prog 2 = some 1 := by kernel_rfl
theorem sz3 : szOf Try.prog 3 = some 1 := by kernel_rfl
theorem sz4 : szOf Try.prog 4 = some 1 := by kernel_rfl
theorem sz5 : szOf Try.prog 5 = some 1 := by kernel_rfl
theorem sz6 : szOf Try.prog 6 = some 1 := by kernel_rfl
theorem sz7 : szOf Try.prog 7 = some 4 := by kernel_rfl
theorem sz8 : szOf Try.prog 8 = some 4 := by kernel_rfl
theorem sz9 : szOf Try.prog 9 = some 1 := by kernel_rfl
theorem sz10 : szOf Try.prog 10 = some 1 := by kernel_rfl
theorem sz11 : szOf Try.prog 11 = some 1 := by kernel_rfl
theorem sz12 : szOf Try.prog 12 = some 1 := by kernel_rfl
theorem sz13 : szOf Try.prog 13 = some 2 := by kernel_rfl
theorem sz14 : szOf Try.prog 14 = some 2 := by kernel_rfl
theorem sz15 : szOf Try.prog 15 = some 1 := by kernel_rfl
theorem sz16 : szOf Try.prog 16 = some 1 := by kernel_rfl
theorem sz17 : szOf Try.prog 17 = some 1 := by kernel_rfl
theorem sz18 : szOf Try.prog 18 = some 1 := by kernel_rfl
theorem sz19 : szOf Try.prog 19 = some 1 := by kernel_rfl
theorem sz20 : szOf Try.prog 20 = some 1 := by kernel_rfl
theorem sz21 : szOf Try.prog 21 = some 1 := by kernel_rfl
theorem sz22 : szOf Try.prog 22 = some 1 := by kernel_rfl
theorem sz23 : szOf Try.prog 23 = some 2 := by kernel_rfl
theorem sz24 : szOf Try.prog 24 = some 2 := by kernel_rfl
theorem sz25 : szOf Try.prog 25 = some 1 := by kernel_rfl
theorem sz26 : szOf Try.prog 26 = some 1 := by kernel_rfl
theorem sz28 : szOf Try.prog 28 = some 1 := by kernel_rfl
theorem sz29 : szOf Try.prog 29 = some 1 := by kernel_rfl
theorem sz30 : szOf Try.prog 30 = some 1 := by kernel_rfl
theorem sz31 : szOf Try.prog 31 = some 1 := by kernel_rfl
theorem sz32 : szOf Try.prog 32 = some 1 := by kernel_rfl
theorem sz33 : szOf Try.prog 33 = some 1 := by kernel_rfl
theorem sz34 : szOf Try.prog 34 = some 1 := by kernel_rfl
theorem sz35 : szOf Try.prog 35 = some 1 := by kernel_rfl
theorem sz37 : szOf Try.prog 37 = some 1 := by kernel_rfl
theorem sz38 : szOf Try.prog 38 = some 1 := by kernel_rfl
theorem sz39 : szOf Try.prog 39 = some 1 := by kernel_rfl
theorem sz40 : szOf Try.prog 40 = some 1 := by kernel_rfl
theorem sz41 : szOf Try.prog 41 = some 1 := by kernel_rfl
theorem sz43 : szOf Try.prog 43 = some 1 := by kernel_rfl
theorem sz44 : szOf Try.prog 44 = some 1 := by kernel_rfl
theorem sz45 : szOf Try.prog 45 = some 1 := by kernel_rfl
theorem sz46 : szOf Try.prog 46 = some 6 := by kernel_rfl
theorem sz47 : szOf Try.prog 47 = some 6 := by kernel_rfl
theorem sz48 : szOf Try.prog 48 = some 1 := by kernel_rfl
theorem sz50 : szOf Try.prog 50 = some 1 := by kernel_rfl
theorem sz51 : szOf Try.prog 51 = some 1 := by kernel_rfl
theorem sz52 : szOf Try.prog 52 = some 1 := by kernel_rfl
theorem sz53 : szOf Try.prog 53 = some 1 := by kernel_rfl
theorem sz54 : szOf Try.prog 54 = some 1 := by kernel_rfl
theorem sz55 : szOf Try.prog 55 = some 1 := by kernel_rfl
theorem sz56 : szOf Try.prog 56 = some 1 := by kernel_rfl
theorem sz57 : szOf Try.prog 57 = some 1 := by kernel_rfl
theorem sz58 : szOf Try.prog 58 = some 1 := by kernel_rfl
theorem sz59 : szOf Try.prog 59 = some 1 := by kernel_rfl
theorem sz60 : szOf Try.prog 60 = some 1 := by kernel_rfl
theorem sz61 : szOf Try.prog 61 = some 1 := by kernel_rfl
theorem sz62 : szOf Try.prog 62 = some 1 := by kernel_rfl
theorem sz63 : szOf Try.prog 63 = some 1 := by kernel_rfl
theorem sz64 : szOf Try.prog 64 = some 1 := by kernel_rfl
theorem sz65 : szOf Try.prog 65 = some 1 := by kernel_rfl
theorem sz66 : szOf Try.prog 66 = some 1 := by kernel_rfl
theorem sz67 : szOf Try.prog 67 = some 1 := by kernel_rfl
theorem sz68 : szOf Try.prog 68 = some 1 := by kernel_rfl
theorem sz70 : szOf Try.prog 70 = some 2 := by kernel_rfl
theorem sz71 : szOf Try.prog 71 = some 2 := by kernel_rfl
theorem sz72 : szOf Try.prog 72 = some 1 := by kernel_rfl
theorem sz73 : szOf Try.prog 73 = some 1 := by kernel_rfl
theorem sz74 : szOf Try.prog 74 = some 1 := by kernel_rfl
theorem sz75 : szOf Try.prog 75 = some 1 := by kernel_rfl
theorem sz76 : szOf Try.prog 76 = some 1 := by kernel_rfl
theorem sz77 : szOf Try.prog 77 = some 1 := by kernel_rfl
theorem sz78 : szOf Try.prog 78 = some 1 := by kernel_rfl
theorem sz79 : szOf Try.prog 79 = some 1 := by kernel_rfl
theorem sz80 : szOf Try.prog 80 = some 1 := by kernel_rfl
theorem sz81 : szOf Try.prog 81 = some 1 := by kernel_rfl
theorem sz82 : szOf Try.prog 82 = some 2 := by kernel_rfl
theorem sz83 : szOf Try.prog 83 = some 2 := by kernel_rfl
theorem sz84 : szOf Try.prog 84 = some 1 := by kernel_rfl
theorem sz85 : szOf Try.prog 85 = some 1 := by kernel_rfl
theorem sz86 : szOf Try.prog 86 = some 1 := by kernel_rfl
theorem sz87 : szOf Try.prog 87 = some 1 := by kernel_rfl
theorem sz88 : szOf Try.prog 88 = some 1 := by kernel_rfl
theorem sz89 : szOf Try.prog 89 = some 1 := by kernel_rfl
theorem sz90 : szOf Try.prog 90 = some 1 := by kernel_rfl
theorem sz92 : szOf Try.prog 92 = some 2 := by kernel_rfl
theorem sz93 : szOf Try.prog 93 = some 2 := by kernel_rfl
theorem sz94 : szOf Try.prog 94 = some 1 := by kernel_rfl
theorem sz95 : szOf Try.prog 95 = some 1 := by kernel_rfl
theorem sz96 : szOf Try.prog 96 = some 1 := by kernel_rfl
theorem sz98 : szOf Try.prog 98 = some 1 := by kernel_rfl
theorem sz99 : szOf Try.prog 99 = some 1 := by kernel_rfl
theorem sz100 : szOf Try.prog 100 = some 4 := by kernel_rfl
theorem sz101 : szOf Try.prog 101 = some 4 := by kernel_rfl
theorem sz102 : szOf Try.prog 102 = some 0 := by kernel_rfl
theorem sz103 : szOf Try.prog 103 = some 0 := by kernel_rfl
theorem sz104 : szOf Try.prog 104 = some 0 := by kernel_rfl
theorem sz105 : szOf Try.prog 105 = some 1 := by kernel_rfl
theorem sz106 : szOf Try.prog 106 = some 1 := by kernel_rfl
theorem sz107 : szOf Try.prog 107 = some 1 := by kernel_rfl
theorem sz108 : szOf Try.prog 108 = some 1 := by kernel_rfl
theorem sz109 : szOf Try.prog 109 = some 1 := by kernel_rfl
theorem sz110 : szOf Try.prog 110 = some 1 := by kernel_rfl
theorem sz111 : szOf Try.prog 111 = some 1 := by kernel_rfl
theorem sz112 : szOf Try.prog 112 = some 11 := by kernel_rfl
theorem sz113 : szOf Try.prog 113 = some 11 := by kernel_rfl
theorem by3 : byOf Try.prog 3 = some 8 := by kernel_rfl
theorem by4 : byOf Try.prog 4 = some 1 := by kernel_rfl
theorem by5 : byOf Try.prog 5 = some 1 := by kernel_rfl
theorem by6 : byOf Try.prog 6 = some 1 := by kernel_rfl
theorem by7 : byOf Try.prog 7 = some 24 := by kernel_rfl
theorem by8 : byOf Try.prog 8 = some 24 := by kernel_rfl
theorem by9 : byOf Try.prog 9 = some 16 := by kernel_rfl
theorem by10 : byOf Try.prog 10 = some 16 := by kernel_rfl
theorem by11 : byOf Try.prog 11 = some 16 := by kernel_rfl
theorem by12 : byOf Try.prog 12 = some 8 := by kernel_rfl
theorem by13 : byOf Try.prog 13 = some 24 := by kernel_rfl
theorem by14 : byOf Try.prog 14 = some 24 := by kernel_rfl
theorem by15 : byOf Try.prog 15 = some 8 := by kernel_rfl
theorem by16 : byOf Try.prog 16 = some 8 := by kernel_rfl
theorem by17 : byOf Try.prog 17 = some 8 := by kernel_rfl
theorem by18 : byOf Try.prog 18 = some 8 := by kernel_rfl
theorem by19 : byOf Try.prog 19 = some 8 := by kernel_rfl
theorem by20 : byOf Try.prog 20 = some 16 := by kernel_rfl
theorem by21 : byOf Try.prog 21 = some 4 := by kernel_rfl
theorem by22 : byOf Try.prog 22 = some 24 := by kernel_rfl
theorem by23 : byOf Try.prog 23 = some 32 := by kernel_rfl
theorem by24 : byOf Try.prog 24 = some 32 := by kernel_rfl
theorem by25 : byOf Try.prog 25 = some 8 := by kernel_rfl
theorem by26 : byOf Try.prog 26 = some 8 := by kernel_rfl
theorem by28 : byOf Try.prog 28 = some 8 := by kernel_rfl
theorem by29 : byOf Try.prog 29 = some 8 := by kernel_rfl
theorem by30 : byOf Try.prog 30 = some 8 := by kernel_rfl
theorem by31 : byOf Try.prog 31 = some 8 := by kernel_rfl
theorem by32 : byOf Try.prog 32 = some 8 := by kernel_rfl
theorem by33 : byOf Try.prog 33 = some 24 := by kernel_rfl
theorem by34 : byOf Try.prog 34 = some 16 := by kernel_rfl
theorem by35 : byOf Try.prog 35 = some 16 := by kernel_rfl
theorem by37 : byOf Try.prog 37 = some 8 := by kernel_rfl
theorem by38 : byOf Try.prog 38 = some 8 := by kernel_rfl
theorem by39 : byOf Try.prog 39 = some 8 := by kernel_rfl
theorem by40 : byOf Try.prog 40 = some 8 := by kernel_rfl
theorem by41 : byOf Try.prog 41 = some 8 := by kernel_rfl
theorem by43 : byOf Try.prog 43 = some 8 := by kernel_rfl
theorem by44 : byOf Try.prog 44 = some 8 := by kernel_rfl
theorem by45 : byOf Try.prog 45 = some 8 := by kernel_rfl
theorem by46 : byOf Try.prog 46 = some 48 := by kernel_rfl
theorem by47 : byOf Try.prog 47 = some 48 := by kernel_rfl
theorem by48 : byOf Try.prog 48 = some 8 := by kernel_rfl
theorem by50 : byOf Try.prog 50 = some 8 := by kernel_rfl
theorem by51 : byOf Try.prog 51 = some 8 := by kernel_rfl
theorem by52 : byOf Try.prog 52 = some 8 := by kernel_rfl
theorem by53 : byOf Try.prog 53 = some 8 := by kernel_rfl
theorem by54 : byOf Try.prog 54 = some 8 := by kernel_rfl
theorem by55 : byOf Try.prog 55 = some 8 := by kernel_rfl
theorem by56 : byOf Try.prog 56 = some 8 := by kernel_rfl
theorem by57 : byOf Try.prog 57 = some 24 := by kernel_rfl
theorem by58 : byOf Try.prog 58 = some 24 := by kernel_rfl
theorem by59 : byOf Try.prog 59 = some 8 := by kernel_rfl
theorem by60 : byOf Try.prog 60 = some 8 := by kernel_rfl
theorem by61 : byOf Try.prog 61 = some 8 := by kernel_rfl
theorem by62 : byOf Try.prog 62 = some 8 := by kernel_rfl
theorem by63 : byOf Try.prog 63 = some 8 := by kernel_rfl
theorem by64 : byOf Try.prog 64 = some 8 := by kernel_rfl
theorem by65 : byOf Try.prog 65 = some 8 := by kernel_rfl
theorem by66 : byOf Try.prog 66 = some 8 := by kernel_rfl
theorem by67 : byOf Try.prog 67 = some 8 := by kernel_rfl
theorem by68 : byOf Try.prog 68 = some 8 := by kernel_rfl
theorem by70 : byOf Try.prog 70 = some 24 := by kernel_rfl
theorem by71 : byOf Try.prog 71 = some 24 := by kernel_rfl
theorem by72 : byOf Try.prog 72 = some 8 := by kernel_rfl
theorem by73 : byOf Try.prog 73 = some 8 := by kernel_rfl
theorem by74 : byOf Try.prog 74 = some 8 := by kernel_rfl
theorem by75 : byOf Try.prog 75 = some 8 := by kernel_rfl
theorem by76 : byOf Try.prog 76 = some 8 := by kernel_rfl
theorem by77 : byOf Try.prog 77 = some 8 := by kernel_rfl
theorem by78 : byOf Try.prog 78 = some 8 := by kernel_rfl
theorem by79 : byOf Try.prog 79 = some 8 := by kernel_rfl
theorem by80 : byOf Try.prog 80 = some 8 := by kernel_rfl
theorem by81 : byOf Try.prog 81 = some 8 := by kernel_rfl
theorem by82 : byOf Try.prog 82 = some 32 := by kernel_rfl
theorem by83 : byOf Try.prog 83 = some 32 := by kernel_rfl
theorem by84 : byOf Try.prog 84 = some 8 := by kernel_rfl
theorem by85 : byOf Try.prog 85 = some 8 := by kernel_rfl
theorem by86 : byOf Try.prog 86 = some 8 := by kernel_rfl
theorem by87 : byOf Try.prog 87 = some 8 := by kernel_rfl
theorem by88 : byOf Try.prog 88 = some 8 := by kernel_rfl
theorem by89 : byOf Try.prog 89 = some 8 := by kernel_rfl
theorem by90 : byOf Try.prog 90 = some 8 := by kernel_rfl
theorem by92 : byOf Try.prog 92 = some 32 := by kernel_rfl
theorem by93 : byOf Try.prog 93 = some 32 := by kernel_rfl
theorem by94 : byOf Try.prog 94 = some 8 := by kernel_rfl
theorem by95 : byOf Try.prog 95 = some 8 := by kernel_rfl
theorem by96 : byOf Try.prog 96 = some 8 := by kernel_rfl
theorem by98 : byOf Try.prog 98 = some 8 := by kernel_rfl
theorem by99 : byOf Try.prog 99 = some 8 := by kernel_rfl
theorem by100 : byOf Try.prog 100 = some 40 := by kernel_rfl
theorem by101 : byOf Try.prog 101 = some 40 := by kernel_rfl
theorem by102 : byOf Try.prog 102 = some 0 := by kernel_rfl
theorem by103 : byOf Try.prog 103 = some 0 := by kernel_rfl
theorem by104 : byOf Try.prog 104 = some 0 := by kernel_rfl
theorem by105 : byOf Try.prog 105 = some 4 := by kernel_rfl
theorem by106 : byOf Try.prog 106 = some 1 := by kernel_rfl
theorem by107 : byOf Try.prog 107 = some 1 := by kernel_rfl
theorem by108 : byOf Try.prog 108 = some 8 := by kernel_rfl
theorem by109 : byOf Try.prog 109 = some 8 := by kernel_rfl
theorem by110 : byOf Try.prog 110 = some 4 := by kernel_rfl
theorem by111 : byOf Try.prog 111 = some 4 := by kernel_rfl
theorem by112 : byOf Try.prog 112 = some 48 := by kernel_rfl
theorem by113 : byOf Try.prog 113 = some 48 := by kernel_rfl
theorem eqg7 : Program.eqGuardType Try.prog Try.prog.depth 7 = false := by kernel_rfl
theorem eqg8 : Program.eqGuardType Try.prog Try.prog.depth 8 = false := by kernel_rfl
theorem eqg46 : Program.eqGuardType Try.prog Try.prog.depth 46 = false := by kernel_rfl
theorem eqg47 : Program.eqGuardType Try.prog Try.prog.depth 47 = false := by kernel_rfl
theorem zr3 : zrOf Try.prog 3 = some (some (.int .i64 0)) := by kernel_rfl
theorem zr4 : zrOf Try.prog 4 = some (some (.bool false)) := by kernel_rfl
theorem zr5 : zrOf Try.prog 5 = some (some (.int .u8 0)) := by kernel_rfl
theorem zr6 : zrOf Try.prog 6 = some (some (.int .u8 0)) := by kernel_rfl
theorem zr7 : zrOf Try.prog 7 = some (some (.agg #[.int .i64 0, .int .i64 0, .bool false, .int .u8 0])) := by kernel_rfl
theorem zr8 : zrOf Try.prog 8 = some (some (.agg #[.int .i64 0, .int .i64 0, .bool false, .int .u8 0])) := by kernel_rfl
theorem zr9 : zrOf Try.prog 9 = some (some (.string ⟨#[]⟩)) := by kernel_rfl
theorem zr10 : zrOf Try.prog 10 = some (some (.string ⟨#[]⟩)) := by kernel_rfl
theorem zr11 : zrOf Try.prog 11 = some (some (.string ⟨#[]⟩)) := by kernel_rfl
theorem zr12 : zrOf Try.prog 12 = some (some (.int .u64 0)) := by kernel_rfl
theorem zr13 : zrOf Try.prog 13 = some (some (.agg #[.string ⟨#[]⟩, .int .u64 0])) := by kernel_rfl
theorem zr14 : zrOf Try.prog 14 = some (some (.agg #[.string ⟨#[]⟩, .int .u64 0])) := by kernel_rfl
theorem zr15 : zrOf Try.prog 15 = some (some (.pointer none)) := by kernel_rfl
theorem zr16 : zrOf Try.prog 16 = some (some (.pointer none)) := by kernel_rfl
theorem zr17 : zrOf Try.prog 17 = some (some (.pointer none)) := by kernel_rfl
theorem zr18 : zrOf Try.prog 18 = some (some (.agg #[.pointer none])) := by kernel_rfl
theorem zr19 : zrOf Try.prog 19 = some (some (.agg #[.pointer none])) := by kernel_rfl
theorem zr20 : zrOf Try.prog 20 = some (some (.nilIface)) := by kernel_rfl
theorem zr21 : zrOf Try.prog 21 = some (some (.int .i32 0)) := by kernel_rfl
theorem zr22 : zrOf Try.prog 22 = some (some (.slice none 0 0)) := by kernel_rfl
theorem zr23 : zrOf Try.prog 23 = some (some (.agg #[.int .i64 0, .slice none 0 0])) := by kernel_rfl
theorem zr24 : zrOf Try.prog 24 = some (some (.agg #[.int .i64 0, .slice none 0 0])) := by kernel_rfl
theorem zr25 : zrOf Try.prog 25 = some (some (.nilFunc)) := by kernel_rfl
theorem zr26 : zrOf Try.prog 26 = some (some (.nilFunc)) := by kernel_rfl
theorem zr28 : zrOf Try.prog 28 = some (some (.nilFunc)) := by kernel_rfl
theorem zr29 : zrOf Try.prog 29 = some (some (.nilFunc)) := by kernel_rfl
theorem zr30 : zrOf Try.prog 30 = some (some (.nilFunc)) := by kernel_rfl
theorem zr31 : zrOf Try.prog 31 = some (some (.nilFunc)) := by kernel_rfl
theorem zr32 : zrOf Try.prog 32 = some (some (.nilFunc)) := by kernel_rfl
theorem zr33 : zrOf Try.prog 33 = some (some (.slice none 0 0)) := by kernel_rfl
theorem zr34 : zrOf Try.prog 34 = some (some (.nilIface)) := by kernel_rfl
theorem zr35 : zrOf Try.prog 35 = some (some (.nilIface)) := by kernel_rfl
theorem zr37 : zrOf Try.prog 37 = some (some (.nilFunc)) := by kernel_rfl
theorem zr38 : zrOf Try.prog 38 = some (some (.nilFunc)) := by kernel_rfl
theorem zr39 : zrOf Try.prog 39 = some (some (.nilFunc)) := by kernel_rfl
theorem zr40 : zrOf Try.prog 40 = some (some (.int .i64 0)) := by kernel_rfl
theorem zr41 : zrOf Try.prog 41 = some (some (.nilFunc)) := by kernel_rfl
theorem zr43 : zrOf Try.prog 43 = some (some (.nilFunc)) := by kernel_rfl
theorem zr44 : zrOf Try.prog 44 = some (some (.nilFunc)) := by kernel_rfl
theorem zr45 : zrOf Try.prog 45 = some (some (.nilFunc)) := by kernel_rfl
theorem zr46 : zrOf Try.prog 46 = some (some (.agg #[.int .i64 0, .int .i64 0, .int .i64 0, .int .i64 0, .int .i64 0, .int .i64 0])) := by kernel_rfl
theorem zr47 : zrOf Try.prog 47 = some (some (.agg #[.int .i64 0, .int .i64 0, .int .i64 0, .int .i64 0, .int .i64 0, .int .i64 0])) := by kernel_rfl
theorem zr48 : zrOf Try.prog 48 = some (some (.nilFunc)) := by kernel_rfl
theorem zr50 : zrOf Try.prog 50 = some (some (.nilFunc)) := by kernel_rfl
theorem zr51 : zrOf Try.prog 51 = some (some (.nilFunc)) := by kernel_rfl
theorem zr52 : zrOf Try.prog 52 = some (some (.int .u64 0)) := by kernel_rfl
theorem zr53 : zrOf Try.prog 53 = some (some (.nilFunc)) := by kernel_rfl
theorem zr54 : zrOf Try.prog 54 = some (some (.nilFunc)) := by kernel_rfl
theorem zr55 : zrOf Try.prog 55 = some (some (.nilFunc)) := by kernel_rfl
theorem zr56 : zrOf Try.prog 56 = some (some (.pointer none)) := by kernel_rfl
theorem zr57 : zrOf Try.prog 57 = some (some (.agg #[.slice none 0 0])) := by kernel_rfl
theorem zr58 : zrOf Try.prog 58 = some (some (.agg #[.slice none 0 0])) := by kernel_rfl
theorem zr59 : zrOf Try.prog 59 = some (some (.nilFunc)) := by kernel_rfl
theorem zr60 : zrOf Try.prog 60 = some (some (.int .u64 0)) := by kernel_rfl
theorem zr61 : zrOf Try.prog 61 = some (some (.nilFunc)) := by kernel_rfl
theorem zr62 : zrOf Try.prog 62 = some (some (.pointer none)) := by kernel_rfl
theorem zr63 : zrOf Try.prog 63 = some (some (.nilFunc)) := by kernel_rfl
theorem zr64 : zrOf Try.prog 64 = some (some (.pointer none)) := by kernel_rfl
theorem zr65 : zrOf Try.prog 65 = some (some (.nilFunc)) := by kernel_rfl
theorem zr66 : zrOf Try.prog 66 = some (some (.nilFunc)) := by kernel_rfl
theorem zr67 : zrOf Try.prog 67 = some (some (.nilFunc)) := by kernel_rfl
theorem zr68 : zrOf Try.prog 68 = some (some (.pointer none)) := by kernel_rfl
theorem zr70 : zrOf Try.prog 70 = some (some (.agg #[.int .i64 0, .nilIface])) := by kernel_rfl
theorem zr71 : zrOf Try.prog 71 = some (some (.agg #[.int .i64 0, .nilIface])) := by kernel_rfl
theorem zr72 : zrOf Try.prog 72 = some (some (.pointer none)) := by kernel_rfl
theorem zr73 : zrOf Try.prog 73 = some (some (.nilFunc)) := by kernel_rfl
theorem zr74 : zrOf Try.prog 74 = some (some (.nilFunc)) := by kernel_rfl
theorem zr75 : zrOf Try.prog 75 = some (some (.nilFunc)) := by kernel_rfl
theorem zr76 : zrOf Try.prog 76 = some (some (.nilFunc)) := by kernel_rfl
theorem zr77 : zrOf Try.prog 77 = some (some (.nilFunc)) := by kernel_rfl
theorem zr78 : zrOf Try.prog 78 = some (some (.nilFunc)) := by kernel_rfl
theorem zr79 : zrOf Try.prog 79 = some (some (.nilFunc)) := by kernel_rfl
theorem zr80 : zrOf Try.prog 80 = some (some (.nilFunc)) := by kernel_rfl
theorem zr81 : zrOf Try.prog 81 = some (some (.pointer none)) := by kernel_rfl
theorem zr82 : zrOf Try.prog 82 = some (some (.agg #[.slice none 0 0, .bool false])) := by kernel_rfl
theorem zr83 : zrOf Try.prog 83 = some (some (.agg #[.slice none 0 0, .bool false])) := by kernel_rfl
theorem zr84 : zrOf Try.prog 84 = some (some (.nilFunc)) := by kernel_rfl
theorem zr85 : zrOf Try.prog 85 = some (some (.nilFunc)) := by kernel_rfl
theorem zr86 : zrOf Try.prog 86 = some (some (.nilFunc)) := by kernel_rfl
theorem zr87 : zrOf Try.prog 87 = some (some (.nilFunc)) := by kernel_rfl
theorem zr88 : zrOf Try.prog 88 = some (some (.nilFunc)) := by kernel_rfl
theorem zr89 : zrOf Try.prog 89 = some (some (.nilFunc)) := by kernel_rfl
theorem zr90 : zrOf Try.prog 90 = some (some (.nilFunc)) := by kernel_rfl
theorem zr92 : zrOf Try.prog 92 = some (some (.agg #[.slice none 0 0, .bool false])) := by kernel_rfl
theorem zr93 : zrOf Try.prog 93 = some (some (.agg #[.slice none 0 0, .bool false])) := by kernel_rfl
theorem zr94 : zrOf Try.prog 94 = some (some (.nilFunc)) := by kernel_rfl
theorem zr95 : zrOf Try.prog 95 = some (some (.nilFunc)) := by kernel_rfl
theorem zr96 : zrOf Try.prog 96 = some (some (.nilFunc)) := by kernel_rfl
theorem zr98 : zrOf Try.prog 98 = some (some (.nilFunc)) := by kernel_rfl
theorem zr99 : zrOf Try.prog 99 = some (some (.nilFunc)) := by kernel_rfl
theorem zr100 : zrOf Try.prog 100 = some (some (.agg #[.pointer none, .pointer none, .pointer none, .string ⟨#[]⟩])) := by kernel_rfl
theorem zr101 : zrOf Try.prog 101 = some (some (.agg #[.pointer none, .pointer none, .pointer none, .string ⟨#[]⟩])) := by kernel_rfl
theorem zr102 : zrOf Try.prog 102 = some (some (.agg #[])) := by kernel_rfl
theorem zr103 : zrOf Try.prog 103 = some (some (.agg #[])) := by kernel_rfl
theorem zr104 : zrOf Try.prog 104 = some (some (.agg #[])) := by kernel_rfl
theorem zr105 : zrOf Try.prog 105 = some (some (.int .u32 0)) := by kernel_rfl
theorem zr106 : zrOf Try.prog 106 = some (some (.int .u8 0)) := by kernel_rfl
theorem zr107 : zrOf Try.prog 107 = some (some (.int .u8 0)) := by kernel_rfl
theorem zr108 : zrOf Try.prog 108 = some (some (.nilFunc)) := by kernel_rfl
theorem zr109 : zrOf Try.prog 109 = some (some (.pointer none)) := by kernel_rfl
theorem zr110 : zrOf Try.prog 110 = some (some (.int .i32 0)) := by kernel_rfl
theorem zr111 : zrOf Try.prog 111 = some (some (.int .i32 0)) := by kernel_rfl
theorem zr112 : zrOf Try.prog 112 = some (some (.agg #[.int .u64 0, .int .u64 0, .int .u32 0, .int .u8 0, .int .u8 0, .int .u8 0, .int .u8 0, .nilFunc, .pointer none, .int .i32 0, .int .i32 0])) := by kernel_rfl
theorem zr113 : zrOf Try.prog 113 = some (some (.agg #[.int .u64 0, .int .u64 0, .int .u32 0, .int .u8 0, .int .u8 0, .int .u8 0, .int .u8 0, .nilFunc, .pointer none, .int .i32 0, .int .i32 0])) := by kernel_rfl
theorem fa7_0 (a : Addr) (H : Hp) (K : Value → Hp → Prop) : Lt Try.prog (Instr.fieldAt 7 (.pointer (some a)) 0) H K = K (.pointer (some (a.add 0))) H := by
  have h := @fieldAt_one Try.prog 7 _ 0 _ 1 Try.underlying7 rfl sz2 (by decide) a H K
  exact h
theorem fa7_1 (a : Addr) (H : Hp) (K : Value → Hp → Prop) : Lt Try.prog (Instr.fieldAt 7 (.pointer (some a)) 1) H K = K (.pointer (some (a.add 1))) H := by
  have h := @fieldAt_one Try.prog 7 _ 1 _ 1 Try.underlying7 rfl sz3 (by decide) a H K
  exact h
theorem fa7_2 (a : Addr) (H : Hp) (K : Value → Hp → Prop) : Lt Try.prog (Instr.fieldAt 7 (.pointer (some a)) 2) H K = K (.pointer (some (a.add 2))) H := by
  have h := @fieldAt_one Try.prog 7 _ 2 _ 1 Try.underlying7 rfl sz4 (by decide) a H K
  exact h
theorem fa7_3 (a : Addr) (H : Hp) (K : Value → Hp → Prop) : Lt Try.prog (Instr.fieldAt 7 (.pointer (some a)) 3) H K = K (.pointer (some (a.add 3))) H := by
  have h := @fieldAt_one Try.prog 7 _ 3 _ 1 Try.underlying7 rfl sz6 (by decide) a H K
  exact h
theorem fa8_0 (a : Addr) (H : Hp) (K : Value → Hp → Prop) : Lt Try.prog (Instr.fieldAt 8 (.pointer (some a)) 0) H K = K (.pointer (some (a.add 0))) H := by
  have h := @fieldAt_one Try.prog 8 _ 0 _ 1 Try.underlying8 rfl sz2 (by decide) a H K
  exact h
theorem fa8_1 (a : Addr) (H : Hp) (K : Value → Hp → Prop) : Lt Try.prog (Instr.fieldAt 8 (.pointer (some a)) 1) H K = K (.pointer (some (a.add 1))) H := by
  have h := @fieldAt_one Try.prog 8 _ 1 _ 1 Try.underlying8 rfl sz3 (by decide) a H K
  exact h
theorem fa8_2 (a : Addr) (H : Hp) (K : Value → Hp → Prop) : Lt Try.prog (Instr.fieldAt 8 (.pointer (some a)) 2) H K = K (.pointer (some (a.add 2))) H := by
  have h := @fieldAt_one Try.prog 8 _ 2 _ 1 Try.underlying8 rfl sz4 (by decide) a H K
  exact h
theorem fa8_3 (a : Addr) (H : Hp) (K : Value → Hp → Prop) : Lt Try.prog (Instr.fieldAt 8 (.pointer (some a)) 3) H K = K (.pointer (some (a.add 3))) H := by
  have h := @fieldAt_one Try.prog 8 _ 3 _ 1 Try.underlying8 rfl sz6 (by decide) a H K
  exact h
theorem fa13_0 (a : Addr) (H : Hp) (K : Value → Hp → Prop) : Lt Try.prog (Instr.fieldAt 13 (.pointer (some a)) 0) H K = K (.pointer (some (a.add 0))) H := by
  have h := @fieldAt_one Try.prog 13 _ 0 _ 1 Try.underlying13 rfl sz9 (by decide) a H K
  exact h
theorem fa13_1 (a : Addr) (H : Hp) (K : Value → Hp → Prop) : Lt Try.prog (Instr.fieldAt 13 (.pointer (some a)) 1) H K = K (.pointer (some (a.add 1))) H := by
  have h := @fieldAt_one Try.prog 13 _ 1 _ 1 Try.underlying13 rfl sz12 (by decide) a H K
  exact h
theorem fa14_0 (a : Addr) (H : Hp) (K : Value → Hp → Prop) : Lt Try.prog (Instr.fieldAt 14 (.pointer (some a)) 0) H K = K (.pointer (some (a.add 0))) H := by
  have h := @fieldAt_one Try.prog 14 _ 0 _ 1 Try.underlying14 rfl sz9 (by decide) a H K
  exact h
theorem fa14_1 (a : Addr) (H : Hp) (K : Value → Hp → Prop) : Lt Try.prog (Instr.fieldAt 14 (.pointer (some a)) 1) H K = K (.pointer (some (a.add 1))) H := by
  have h := @fieldAt_one Try.prog 14 _ 1 _ 1 Try.underlying14 rfl sz12 (by decide) a H K
  exact h
theorem fa18_0 (a : Addr) (H : Hp) (K : Value → Hp → Prop) : Lt Try.prog (Instr.fieldAt 18 (.pointer (some a)) 0) H K = K (.pointer (some (a.add 0))) H := by
  have h := @fieldAt_one Try.prog 18 _ 0 _ 1 Try.underlying18 rfl sz17 (by decide) a H K
  exact h
theorem fa19_0 (a : Addr) (H : Hp) (K : Value → Hp → Prop) : Lt Try.prog (Instr.fieldAt 19 (.pointer (some a)) 0) H K = K (.pointer (some (a.add 0))) H := by
  have h := @fieldAt_one Try.prog 19 _ 0 _ 1 Try.underlying19 rfl sz17 (by decide) a H K
  exact h
theorem fa23_0 (a : Addr) (H : Hp) (K : Value → Hp → Prop) : Lt Try.prog (Instr.fieldAt 23 (.pointer (some a)) 0) H K = K (.pointer (some (a.add 0))) H := by
  have h := @fieldAt_one Try.prog 23 _ 0 _ 1 Try.underlying23 rfl sz3 (by decide) a H K
  exact h
theorem fa23_1 (a : Addr) (H : Hp) (K : Value → Hp → Prop) : Lt Try.prog (Instr.fieldAt 23 (.pointer (some a)) 1) H K = K (.pointer (some (a.add 1))) H := by
  have h := @fieldAt_one Try.prog 23 _ 1 _ 1 Try.underlying23 rfl sz22 (by decide) a H K
  exact h
theorem fa24_0 (a : Addr) (H : Hp) (K : Value → Hp → Prop) : Lt Try.prog (Instr.fieldAt 24 (.pointer (some a)) 0) H K = K (.pointer (some (a.add 0))) H := by
  have h := @fieldAt_one Try.prog 24 _ 0 _ 1 Try.underlying24 rfl sz3 (by decide) a H K
  exact h
theorem fa24_1 (a : Addr) (H : Hp) (K : Value → Hp → Prop) : Lt Try.prog (Instr.fieldAt 24 (.pointer (some a)) 1) H K = K (.pointer (some (a.add 1))) H := by
  have h := @fieldAt_one Try.prog 24 _ 1 _ 1 Try.underlying24 rfl sz22 (by decide) a H K
  exact h
theorem fa46_0 (a : Addr) (H : Hp) (K : Value → Hp → Prop) : Lt Try.prog (Instr.fieldAt 46 (.pointer (some a)) 0) H K = K (.pointer (some (a.add 0))) H := by
  have h := @fieldAt_one Try.prog 46 _ 0 _ 1 Try.underlying46 rfl sz3 (by decide) a H K
  exact h
theorem fa46_1 (a : Addr) (H : Hp) (K : Value → Hp → Prop) : Lt Try.prog (Instr.fieldAt 46 (.pointer (some a)) 1) H K = K (.pointer (some (a.add 1))) H := by
  have h := @fieldAt_one Try.prog 46 _ 1 _ 1 Try.underlying46 rfl sz3 (by decide) a H K
  exact h
theorem fa46_2 (a : Addr) (H : Hp) (K : Value → Hp → Prop) : Lt Try.prog (Instr.fieldAt 46 (.pointer (some a)) 2) H K = K (.pointer (some (a.add 2))) H := by
  have h := @fieldAt_one Try.prog 46 _ 2 _ 1 Try.underlying46 rfl sz3 (by decide) a H K
  exact h
theorem fa46_3 (a : Addr) (H : Hp) (K : Value → Hp → Prop) : Lt Try.prog (Instr.fieldAt 46 (.pointer (some a)) 3) H K = K (.pointer (some (a.add 3))) H := by
  have h := @fieldAt_one Try.prog 46 _ 3 _ 1 Try.underlying46 rfl sz3 (by decide) a H K
  exact h
theorem fa46_4 (a : Addr) (H : Hp) (K : Value → Hp → Prop) : Lt Try.prog (Instr.fieldAt 46 (.pointer (some a)) 4) H K = K (.pointer (some (a.add 4))) H := by
  have h := @fieldAt_one Try.prog 46 _ 4 _ 1 Try.underlying46 rfl sz3 (by decide) a H K
  exact h
theorem fa46_5 (a : Addr) (H : Hp) (K : Value → Hp → Prop) : Lt Try.prog (Instr.fieldAt 46 (.pointer (some a)) 5) H K = K (.pointer (some (a.add 5))) H := by
  have h := @fieldAt_one Try.prog 46 _ 5 _ 1 Try.underlying46 rfl sz3 (by decide) a H K
  exact h
theorem fa47_0 (a : Addr) (H : Hp) (K : Value → Hp → Prop) : Lt Try.prog (Instr.fieldAt 47 (.pointer (some a)) 0) H K = K (.pointer (some (a.add 0))) H := by
  have h := @fieldAt_one Try.prog 47 _ 0 _ 1 Try.underlying47 rfl sz3 (by decide) a H K
  exact h
theorem fa47_1 (a : Addr) (H : Hp) (K : Value → Hp → Prop) : Lt Try.prog (Instr.fieldAt 47 (.pointer (some a)) 1) H K = K (.pointer (some (a.add 1))) H := by
  have h := @fieldAt_one Try.prog 47 _ 1 _ 1 Try.underlying47 rfl sz3 (by decide) a H K
  exact h
theorem fa47_2 (a : Addr) (H : Hp) (K : Value → Hp → Prop) : Lt Try.prog (Instr.fieldAt 47 (.pointer (some a)) 2) H K = K (.pointer (some (a.add 2))) H := by
  have h := @fieldAt_one Try.prog 47 _ 2 _ 1 Try.underlying47 rfl sz3 (by decide) a H K
  exact h
theorem fa47_3 (a : Addr) (H : Hp) (K : Value → Hp → Prop) : Lt Try.prog (Instr.fieldAt 47 (.pointer (some a)) 3) H K = K (.pointer (some (a.add 3))) H := by
  have h := @fieldAt_one Try.prog 47 _ 3 _ 1 Try.underlying47 rfl sz3 (by decide) a H K
  exact h
theorem fa47_4 (a : Addr) (H : Hp) (K : Value → Hp → Prop) : Lt Try.prog (Instr.fieldAt 47 (.pointer (some a)) 4) H K = K (.pointer (some (a.add 4))) H := by
  have h := @fieldAt_one Try.prog 47 _ 4 _ 1 Try.underlying47 rfl sz3 (by decide) a H K
  exact h
theorem fa47_5 (a : Addr) (H : Hp) (K : Value → Hp → Prop) : Lt Try.prog (Instr.fieldAt 47 (.pointer (some a)) 5) H K = K (.pointer (some (a.add 5))) H := by
  have h := @fieldAt_one Try.prog 47 _ 5 _ 1 Try.underlying47 rfl sz3 (by decide) a H K
  exact h
theorem fa57_0 (a : Addr) (H : Hp) (K : Value → Hp → Prop) : Lt Try.prog (Instr.fieldAt 57 (.pointer (some a)) 0) H K = K (.pointer (some (a.add 0))) H := by
  have h := @fieldAt_one Try.prog 57 _ 0 _ 1 Try.underlying57 rfl sz33 (by decide) a H K
  exact h
theorem fa58_0 (a : Addr) (H : Hp) (K : Value → Hp → Prop) : Lt Try.prog (Instr.fieldAt 58 (.pointer (some a)) 0) H K = K (.pointer (some (a.add 0))) H := by
  have h := @fieldAt_one Try.prog 58 _ 0 _ 1 Try.underlying58 rfl sz33 (by decide) a H K
  exact h
theorem fa70_0 (a : Addr) (H : Hp) (K : Value → Hp → Prop) : Lt Try.prog (Instr.fieldAt 70 (.pointer (some a)) 0) H K = K (.pointer (some (a.add 0))) H := by
  have h := @fieldAt_one Try.prog 70 _ 0 _ 1 Try.underlying70 rfl sz3 (by decide) a H K
  exact h
theorem fa70_1 (a : Addr) (H : Hp) (K : Value → Hp → Prop) : Lt Try.prog (Instr.fieldAt 70 (.pointer (some a)) 1) H K = K (.pointer (some (a.add 1))) H := by
  have h := @fieldAt_one Try.prog 70 _ 1 _ 1 Try.underlying70 rfl sz35 (by decide) a H K
  exact h
theorem fa71_0 (a : Addr) (H : Hp) (K : Value → Hp → Prop) : Lt Try.prog (Instr.fieldAt 71 (.pointer (some a)) 0) H K = K (.pointer (some (a.add 0))) H := by
  have h := @fieldAt_one Try.prog 71 _ 0 _ 1 Try.underlying71 rfl sz3 (by decide) a H K
  exact h
theorem fa71_1 (a : Addr) (H : Hp) (K : Value → Hp → Prop) : Lt Try.prog (Instr.fieldAt 71 (.pointer (some a)) 1) H K = K (.pointer (some (a.add 1))) H := by
  have h := @fieldAt_one Try.prog 71 _ 1 _ 1 Try.underlying71 rfl sz35 (by decide) a H K
  exact h
theorem fa82_0 (a : Addr) (H : Hp) (K : Value → Hp → Prop) : Lt Try.prog (Instr.fieldAt 82 (.pointer (some a)) 0) H K = K (.pointer (some (a.add 0))) H := by
  have h := @fieldAt_one Try.prog 82 _ 0 _ 1 Try.underlying82 rfl sz33 (by decide) a H K
  exact h
theorem fa82_1 (a : Addr) (H : Hp) (K : Value → Hp → Prop) : Lt Try.prog (Instr.fieldAt 82 (.pointer (some a)) 1) H K = K (.pointer (some (a.add 1))) H := by
  have h := @fieldAt_one Try.prog 82 _ 1 _ 1 Try.underlying82 rfl sz4 (by decide) a H K
  exact h
theorem fa83_0 (a : Addr) (H : Hp) (K : Value → Hp → Prop) : Lt Try.prog (Instr.fieldAt 83 (.pointer (some a)) 0) H K = K (.pointer (some (a.add 0))) H := by
  have h := @fieldAt_one Try.prog 83 _ 0 _ 1 Try.underlying83 rfl sz33 (by decide) a H K
  exact h
theorem fa83_1 (a : Addr) (H : Hp) (K : Value → Hp → Prop) : Lt Try.prog (Instr.fieldAt 83 (.pointer (some a)) 1) H K = K (.pointer (some (a.add 1))) H := by
  have h := @fieldAt_one Try.prog 83 _ 1 _ 1 Try.underlying83 rfl sz4 (by decide) a H K
  exact h
theorem fa92_0 (a : Addr) (H : Hp) (K : Value → Hp → Prop) : Lt Try.prog (Instr.fieldAt 92 (.pointer (some a)) 0) H K = K (.pointer (some (a.add 0))) H := by
  have h := @fieldAt_one Try.prog 92 _ 0 _ 1 Try.underlying92 rfl sz33 (by decide) a H K
  exact h
theorem fa92_1 (a : Addr) (H : Hp) (K : Value → Hp → Prop) : Lt Try.prog (Instr.fieldAt 92 (.pointer (some a)) 1) H K = K (.pointer (some (a.add 1))) H := by
  have h := @fieldAt_one Try.prog 92 _ 1 _ 1 Try.underlying92 rfl sz4 (by decide) a H K
  exact h
theorem fa93_0 (a : Addr) (H : Hp) (K : Value → Hp → Prop) : Lt Try.prog (Instr.fieldAt 93 (.pointer (some a)) 0) H K = K (.pointer (some (a.add 0))) H := by
  have h := @fieldAt_one Try.prog 93 _ 0 _ 1 Try.underlying93 rfl sz33 (by decide) a H K
  exact h
theorem fa93_1 (a : Addr) (H : Hp) (K : Value → Hp → Prop) : Lt Try.prog (Instr.fieldAt 93 (.pointer (some a)) 1) H K = K (.pointer (some (a.add 1))) H := by
  have h := @fieldAt_one Try.prog 93 _ 1 _ 1 Try.underlying93 rfl sz4 (by decide) a H K
  exact h
theorem fa100_0 (a : Addr) (H : Hp) (K : Value → Hp → Prop) : Lt Try.prog (Instr.fieldAt 100 (.pointer (some a)) 0) H K = K (.pointer (some (a.add 0))) H := by
  have h := @fieldAt_one Try.prog 100 _ 0 _ 1 Try.underlying100 rfl sz17 (by decide) a H K
  exact h
theorem fa100_1 (a : Addr) (H : Hp) (K : Value → Hp → Prop) : Lt Try.prog (Instr.fieldAt 100 (.pointer (some a)) 1) H K = K (.pointer (some (a.add 1))) H := by
  have h := @fieldAt_one Try.prog 100 _ 1 _ 1 Try.underlying100 rfl sz17 (by decide) a H K
  exact h
theorem fa100_2 (a : Addr) (H : Hp) (K : Value → Hp → Prop) : Lt Try.prog (Instr.fieldAt 100 (.pointer (some a)) 2) H K = K (.pointer (some (a.add 2))) H := by
  have h := @fieldAt_one Try.prog 100 _ 2 _ 1 Try.underlying100 rfl sz17 (by decide) a H K
  exact h
theorem fa100_3 (a : Addr) (H : Hp) (K : Value → Hp → Prop) : Lt Try.prog (Instr.fieldAt 100 (.pointer (some a)) 3) H K = K (.pointer (some (a.add 3))) H := by
  have h := @fieldAt_one Try.prog 100 _ 3 _ 1 Try.underlying100 rfl sz9 (by decide) a H K
  exact h
theorem fa101_0 (a : Addr) (H : Hp) (K : Value → Hp → Prop) : Lt Try.prog (Instr.fieldAt 101 (.pointer (some a)) 0) H K = K (.pointer (some (a.add 0))) H := by
  have h := @fieldAt_one Try.prog 101 _ 0 _ 1 Try.underlying101 rfl sz17 (by decide) a H K
  exact h
theorem fa101_1 (a : Addr) (H : Hp) (K : Value → Hp → Prop) : Lt Try.prog (Instr.fieldAt 101 (.pointer (some a)) 1) H K = K (.pointer (some (a.add 1))) H := by
  have h := @fieldAt_one Try.prog 101 _ 1 _ 1 Try.underlying101 rfl sz17 (by decide) a H K
  exact h
theorem fa101_2 (a : Addr) (H : Hp) (K : Value → Hp → Prop) : Lt Try.prog (Instr.fieldAt 101 (.pointer (some a)) 2) H K = K (.pointer (some (a.add 2))) H := by
  have h := @fieldAt_one Try.prog 101 _ 2 _ 1 Try.underlying101 rfl sz17 (by decide) a H K
  exact h
theorem fa101_3 (a : Addr) (H : Hp) (K : Value → Hp → Prop) : Lt Try.prog (Instr.fieldAt 101 (.pointer (some a)) 3) H K = K (.pointer (some (a.add 3))) H := by
  have h := @fieldAt_one Try.prog 101 _ 3 _ 1 Try.underlying101 rfl sz9 (by decide) a H K
  exact h
theorem fa112_0 (a : Addr) (H : Hp) (K : Value → Hp → Prop) : Lt Try.prog (Instr.fieldAt 112 (.pointer (some a)) 0) H K = K (.pointer (some (a.add 0))) H := by
  have h := @fieldAt_one Try.prog 112 _ 0 _ 1 Try.underlying112 rfl sz12 (by decide) a H K
  exact h
theorem fa112_1 (a : Addr) (H : Hp) (K : Value → Hp → Prop) : Lt Try.prog (Instr.fieldAt 112 (.pointer (some a)) 1) H K = K (.pointer (some (a.add 1))) H := by
  have h := @fieldAt_one Try.prog 112 _ 1 _ 1 Try.underlying112 rfl sz12 (by decide) a H K
  exact h
theorem fa112_2 (a : Addr) (H : Hp) (K : Value → Hp → Prop) : Lt Try.prog (Instr.fieldAt 112 (.pointer (some a)) 2) H K = K (.pointer (some (a.add 2))) H := by
  have h := @fieldAt_one Try.prog 112 _ 2 _ 1 Try.underlying112 rfl sz105 (by decide) a H K
  exact h
theorem fa112_3 (a : Addr) (H : Hp) (K : Value → Hp → Prop) : Lt Try.prog (Instr.fieldAt 112 (.pointer (some a)) 3) H K = K (.pointer (some (a.add 3))) H := by
  have h := @fieldAt_one Try.prog 112 _ 3 _ 1 Try.underlying112 rfl sz106 (by decide) a H K
  exact h
theorem fa112_4 (a : Addr) (H : Hp) (K : Value → Hp → Prop) : Lt Try.prog (Instr.fieldAt 112 (.pointer (some a)) 4) H K = K (.pointer (some (a.add 4))) H := by
  have h := @fieldAt_one Try.prog 112 _ 4 _ 1 Try.underlying112 rfl sz5 (by decide) a H K
  exact h
theorem fa112_5 (a : Addr) (H : Hp) (K : Value → Hp → Prop) : Lt Try.prog (Instr.fieldAt 112 (.pointer (some a)) 5) H K = K (.pointer (some (a.add 5))) H := by
  have h := @fieldAt_one Try.prog 112 _ 5 _ 1 Try.underlying112 rfl sz5 (by decide) a H K
  exact h
theorem fa112_6 (a : Addr) (H : Hp) (K : Value → Hp → Prop) : Lt Try.prog (Instr.fieldAt 112 (.pointer (some a)) 6) H K = K (.pointer (some (a.add 6))) H := by
  have h := @fieldAt_one Try.prog 112 _ 6 _ 1 Try.underlying112 rfl sz107 (by decide) a H K
  exact h
theorem fa112_7 (a : Addr) (H : Hp) (K : Value → Hp → Prop) : Lt Try.prog (Instr.fieldAt 112 (.pointer (some a)) 7) H K = K (.pointer (some (a.add 7))) H := by
  have h := @fieldAt_one Try.prog 112 _ 7 _ 1 Try.underlying112 rfl sz108 (by decide) a H K
  exact h
theorem fa112_8 (a : Addr) (H : Hp) (K : Value → Hp → Prop) : Lt Try.prog (Instr.fieldAt 112 (.pointer (some a)) 8) H K = K (.pointer (some (a.add 8))) H := by
  have h := @fieldAt_one Try.prog 112 _ 8 _ 1 Try.underlying112 rfl sz109 (by decide) a H K
  exact h
theorem fa112_9 (a : Addr) (H : Hp) (K : Value → Hp → Prop) : Lt Try.prog (Instr.fieldAt 112 (.pointer (some a)) 9) H K = K (.pointer (some (a.add 9))) H := by
  have h := @fieldAt_one Try.prog 112 _ 9 _ 1 Try.underlying112 rfl sz110 (by decide) a H K
  exact h
theorem fa112_10 (a : Addr) (H : Hp) (K : Value → Hp → Prop) : Lt Try.prog (Instr.fieldAt 112 (.pointer (some a)) 10) H K = K (.pointer (some (a.add 10))) H := by
  have h := @fieldAt_one Try.prog 112 _ 10 _ 1 Try.underlying112 rfl sz111 (by decide) a H K
  exact h
theorem fa113_0 (a : Addr) (H : Hp) (K : Value → Hp → Prop) : Lt Try.prog (Instr.fieldAt 113 (.pointer (some a)) 0) H K = K (.pointer (some (a.add 0))) H := by
  have h := @fieldAt_one Try.prog 113 _ 0 _ 1 Try.underlying113 rfl sz12 (by decide) a H K
  exact h
theorem fa113_1 (a : Addr) (H : Hp) (K : Value → Hp → Prop) : Lt Try.prog (Instr.fieldAt 113 (.pointer (some a)) 1) H K = K (.pointer (some (a.add 1))) H := by
  have h := @fieldAt_one Try.prog 113 _ 1 _ 1 Try.underlying113 rfl sz12 (by decide) a H K
  exact h
theorem fa113_2 (a : Addr) (H : Hp) (K : Value → Hp → Prop) : Lt Try.prog (Instr.fieldAt 113 (.pointer (some a)) 2) H K = K (.pointer (some (a.add 2))) H := by
  have h := @fieldAt_one Try.prog 113 _ 2 _ 1 Try.underlying113 rfl sz105 (by decide) a H K
  exact h
theorem fa113_3 (a : Addr) (H : Hp) (K : Value → Hp → Prop) : Lt Try.prog (Instr.fieldAt 113 (.pointer (some a)) 3) H K = K (.pointer (some (a.add 3))) H := by
  have h := @fieldAt_one Try.prog 113 _ 3 _ 1 Try.underlying113 rfl sz106 (by decide) a H K
  exact h
theorem fa113_4 (a : Addr) (H : Hp) (K : Value → Hp → Prop) : Lt Try.prog (Instr.fieldAt 113 (.pointer (some a)) 4) H K = K (.pointer (some (a.add 4))) H := by
  have h := @fieldAt_one Try.prog 113 _ 4 _ 1 Try.underlying113 rfl sz5 (by decide) a H K
  exact h
theorem fa113_5 (a : Addr) (H : Hp) (K : Value → Hp → Prop) : Lt Try.prog (Instr.fieldAt 113 (.pointer (some a)) 5) H K = K (.pointer (some (a.add 5))) H := by
  have h := @fieldAt_one Try.prog 113 _ 5 _ 1 Try.underlying113 rfl sz5 (by decide) a H K
  exact h
theorem fa113_6 (a : Addr) (H : Hp) (K : Value → Hp → Prop) : Lt Try.prog (Instr.fieldAt 113 (.pointer (some a)) 6) H K = K (.pointer (some (a.add 6))) H := by
  have h := @fieldAt_one Try.prog 113 _ 6 _ 1 Try.underlying113 rfl sz107 (by decide) a H K
  exact h
theorem fa113_7 (a : Addr) (H : Hp) (K : Value → Hp → Prop) : Lt Try.prog (Instr.fieldAt 113 (.pointer (some a)) 7) H K = K (.pointer (some (a.add 7))) H := by
  have h := @fieldAt_one Try.prog 113 _ 7 _ 1 Try.underlying113 rfl sz108 (by decide) a H K
  exact h
theorem fa113_8 (a : Addr) (H : Hp) (K : Value → Hp → Prop) : Lt Try.prog (Instr.fieldAt 113 (.pointer (some a)) 8) H K = K (.pointer (some (a.add 8))) H := by
  have h := @fieldAt_one Try.prog 113 _ 8 _ 1 Try.underlying113 rfl sz109 (by decide) a H K
  exact h
theorem fa113_9 (a : Addr) (H : Hp) (K : Value → Hp → Prop) : Lt Try.prog (Instr.fieldAt 113 (.pointer (some a)) 9) H K = K (.pointer (some (a.add 9))) H := by
  have h := @fieldAt_one Try.prog 113 _ 9 _ 1 Try.underlying113 rfl sz110 (by decide) a H K
  exact h
theorem fa113_10 (a : Addr) (H : Hp) (K : Value → Hp → Prop) : Lt Try.prog (Instr.fieldAt 113 (.pointer (some a)) 10) H K = K (.pointer (some (a.add 10))) H := by
  have h := @fieldAt_one Try.prog 113 _ 10 _ 1 Try.underlying113 rfl sz111 (by decide) a H K
  exact h
theorem bp7 (ps : Array (Nat × Value)) (H : Hp) (K : Value → Hp → Prop) : Lt Try.prog (Instr.build 7 ps) H K = orF (Instr.fill (#[(0, 1), (1, 1), (2, 1), (3, 1)][·]?) #[.int .i64 0, .int .i64 0, .bool false, .int .u8 0] ps.toList) (fun c => K (.agg c) H) := by
  simp only [Instr.build, l_bind, l_zero, zr7, orF_some, l_und, Try.underlying7]
  simp [l_bind, l_pure, l_size, sz2, sz3, sz4, sz6, orF_some, l_map, Value.cells]
  cases Instr.fill _ _ _ <;> rfl
theorem bp8 (ps : Array (Nat × Value)) (H : Hp) (K : Value → Hp → Prop) : Lt Try.prog (Instr.build 8 ps) H K = orF (Instr.fill (#[(0, 1), (1, 1), (2, 1), (3, 1)][·]?) #[.int .i64 0, .int .i64 0, .bool false, .int .u8 0] ps.toList) (fun c => K (.agg c) H) := by
  simp only [Instr.build, l_bind, l_zero, zr8, orF_some, l_und, Try.underlying8]
  simp [l_bind, l_pure, l_size, sz2, sz3, sz4, sz6, orF_some, l_map, Value.cells]
  cases Instr.fill _ _ _ <;> rfl
theorem bp13 (ps : Array (Nat × Value)) (H : Hp) (K : Value → Hp → Prop) : Lt Try.prog (Instr.build 13 ps) H K = orF (Instr.fill (#[(0, 1), (1, 1)][·]?) #[.string ⟨#[]⟩, .int .u64 0] ps.toList) (fun c => K (.agg c) H) := by
  simp only [Instr.build, l_bind, l_zero, zr13, orF_some, l_und, Try.underlying13]
  simp [l_bind, l_pure, l_size, sz9, sz12, orF_some, l_map, Value.cells]
  cases Instr.fill _ _ _ <;> rfl
theorem bp14 (ps : Array (Nat × Value)) (H : Hp) (K : Value → Hp → Prop) : Lt Try.prog (Instr.build 14 ps) H K = orF (Instr.fill (#[(0, 1), (1, 1)][·]?) #[.string ⟨#[]⟩, .int .u64 0] ps.toList) (fun c => K (.agg c) H) := by
  simp only [Instr.build, l_bind, l_zero, zr14, orF_some, l_und, Try.underlying14]
  simp [l_bind, l_pure, l_size, sz9, sz12, orF_some, l_map, Value.cells]
  cases Instr.fill _ _ _ <;> rfl
theorem bp18 (ps : Array (Nat × Value)) (H : Hp) (K : Value → Hp → Prop) : Lt Try.prog (Instr.build 18 ps) H K = orF (Instr.fill (#[(0, 1)][·]?) #[.pointer none] ps.toList) (fun c => K (.agg c) H) := by
  simp only [Instr.build, l_bind, l_zero, zr18, orF_some, l_und, Try.underlying18]
  simp [l_bind, l_pure, l_size, sz17, orF_some, l_map, Value.cells]
  cases Instr.fill _ _ _ <;> rfl
theorem bp19 (ps : Array (Nat × Value)) (H : Hp) (K : Value → Hp → Prop) : Lt Try.prog (Instr.build 19 ps) H K = orF (Instr.fill (#[(0, 1)][·]?) #[.pointer none] ps.toList) (fun c => K (.agg c) H) := by
  simp only [Instr.build, l_bind, l_zero, zr19, orF_some, l_und, Try.underlying19]
  simp [l_bind, l_pure, l_size, sz17, orF_some, l_map, Value.cells]
  cases Instr.fill _ _ _ <;> rfl
theorem bp23 (ps : Array (Nat × Value)) (H : Hp) (K : Value → Hp → Prop) : Lt Try.prog (Instr.build 23 ps) H K = orF (Instr.fill (#[(0, 1), (1, 1)][·]?) #[.int .i64 0, .slice none 0 0] ps.toList) (fun c => K (.agg c) H) := by
  simp only [Instr.build, l_bind, l_zero, zr23, orF_some, l_und, Try.underlying23]
  simp [l_bind, l_pure, l_size, sz3, sz22, orF_some, l_map, Value.cells]
  cases Instr.fill _ _ _ <;> rfl
theorem bp24 (ps : Array (Nat × Value)) (H : Hp) (K : Value → Hp → Prop) : Lt Try.prog (Instr.build 24 ps) H K = orF (Instr.fill (#[(0, 1), (1, 1)][·]?) #[.int .i64 0, .slice none 0 0] ps.toList) (fun c => K (.agg c) H) := by
  simp only [Instr.build, l_bind, l_zero, zr24, orF_some, l_und, Try.underlying24]
  simp [l_bind, l_pure, l_size, sz3, sz22, orF_some, l_map, Value.cells]
  cases Instr.fill _ _ _ <;> rfl
theorem bp46 (ps : Array (Nat × Value)) (H : Hp) (K : Value → Hp → Prop) : Lt Try.prog (Instr.build 46 ps) H K = orF (Instr.fill (#[(0, 1), (1, 1), (2, 1), (3, 1), (4, 1), (5, 1)][·]?) #[.int .i64 0, .int .i64 0, .int .i64 0, .int .i64 0, .int .i64 0, .int .i64 0] ps.toList) (fun c => K (.agg c) H) := by
  simp only [Instr.build, l_bind, l_zero, zr46, orF_some, l_und, Try.underlying46]
  simp [l_bind, l_pure, l_size, sz3, orF_some, l_map, Value.cells]
  cases Instr.fill _ _ _ <;> rfl
theorem bp47 (ps : Array (Nat × Value)) (H : Hp) (K : Value → Hp → Prop) : Lt Try.prog (Instr.build 47 ps) H K = orF (Instr.fill (#[(0, 1), (1, 1), (2, 1), (3, 1), (4, 1), (5, 1)][·]?) #[.int .i64 0, .int .i64 0, .int .i64 0, .int .i64 0, .int .i64 0, .int .i64 0] ps.toList) (fun c => K (.agg c) H) := by
  simp only [Instr.build, l_bind, l_zero, zr47, orF_some, l_und, Try.underlying47]
  simp [l_bind, l_pure, l_size, sz3, orF_some, l_map, Value.cells]
  cases Instr.fill _ _ _ <;> rfl
theorem bp57 (ps : Array (Nat × Value)) (H : Hp) (K : Value → Hp → Prop) : Lt Try.prog (Instr.build 57 ps) H K = orF (Instr.fill (#[(0, 1)][·]?) #[.slice none 0 0] ps.toList) (fun c => K (.agg c) H) := by
  simp only [Instr.build, l_bind, l_zero, zr57, orF_some, l_und, Try.underlying57]
  simp [l_bind, l_pure, l_size, sz33, orF_some, l_map, Value.cells]
  cases Instr.fill _ _ _ <;> rfl
theorem bp58 (ps : Array (Nat × Value)) (H : Hp) (K : Value → Hp → Prop) : Lt Try.prog (Instr.build 58 ps) H K = orF (Instr.fill (#[(0, 1)][·]?) #[.slice none 0 0] ps.toList) (fun c => K (.agg c) H) := by
  simp only [Instr.build, l_bind, l_zero, zr58, orF_some, l_und, Try.underlying58]
  simp [l_bind, l_pure, l_size, sz33, orF_some, l_map, Value.cells]
  cases Instr.fill _ _ _ <;> rfl
theorem bp70 (ps : Array (Nat × Value)) (H : Hp) (K : Value → Hp → Prop) : Lt Try.prog (Instr.build 70 ps) H K = orF (Instr.fill (#[(0, 1), (1, 1)][·]?) #[.int .i64 0, .nilIface] ps.toList) (fun c => K (.agg c) H) := by
  simp only [Instr.build, l_bind, l_zero, zr70, orF_some, l_und, Try.underlying70]
  simp [l_bind, l_pure, l_size, sz3, sz35, orF_some, l_map, Value.cells]
  cases Instr.fill _ _ _ <;> rfl
theorem bp71 (ps : Array (Nat × Value)) (H : Hp) (K : Value → Hp → Prop) : Lt Try.prog (Instr.build 71 ps) H K = orF (Instr.fill (#[(0, 1), (1, 1)][·]?) #[.int .i64 0, .nilIface] ps.toList) (fun c => K (.agg c) H) := by
  simp only [Instr.build, l_bind, l_zero, zr71, orF_some, l_und, Try.underlying71]
  simp [l_bind, l_pure, l_size, sz3, sz35, orF_some, l_map, Value.cells]
  cases Instr.fill _ _ _ <;> rfl
theorem bp82 (ps : Array (Nat × Value)) (H : Hp) (K : Value → Hp → Prop) : Lt Try.prog (Instr.build 82 ps) H K = orF (Instr.fill (#[(0, 1), (1, 1)][·]?) #[.slice none 0 0, .bool false] ps.toList) (fun c => K (.agg c) H) := by
  simp only [Instr.build, l_bind, l_zero, zr82, orF_some, l_und, Try.underlying82]
  simp [l_bind, l_pure, l_size, sz4, sz33, orF_some, l_map, Value.cells]
  cases Instr.fill _ _ _ <;> rfl
theorem bp83 (ps : Array (Nat × Value)) (H : Hp) (K : Value → Hp → Prop) : Lt Try.prog (Instr.build 83 ps) H K = orF (Instr.fill (#[(0, 1), (1, 1)][·]?) #[.slice none 0 0, .bool false] ps.toList) (fun c => K (.agg c) H) := by
  simp only [Instr.build, l_bind, l_zero, zr83, orF_some, l_und, Try.underlying83]
  simp [l_bind, l_pure, l_size, sz4, sz33, orF_some, l_map, Value.cells]
  cases Instr.fill _ _ _ <;> rfl
theorem bp92 (ps : Array (Nat × Value)) (H : Hp) (K : Value → Hp → Prop) : Lt Try.prog (Instr.build 92 ps) H K = orF (Instr.fill (#[(0, 1), (1, 1)][·]?) #[.slice none 0 0, .bool false] ps.toList) (fun c => K (.agg c) H) := by
  simp only [Instr.build, l_bind, l_zero, zr92, orF_some, l_und, Try.underlying92]
  simp [l_bind, l_pure, l_size, sz4, sz33, orF_some, l_map, Value.cells]
  cases Instr.fill _ _ _ <;> rfl
theorem bp93 (ps : Array (Nat × Value)) (H : Hp) (K : Value → Hp → Prop) : Lt Try.prog (Instr.build 93 ps) H K = orF (Instr.fill (#[(0, 1), (1, 1)][·]?) #[.slice none 0 0, .bool false] ps.toList) (fun c => K (.agg c) H) := by
  simp only [Instr.build, l_bind, l_zero, zr93, orF_some, l_und, Try.underlying93]
  simp [l_bind, l_pure, l_size, sz4, sz33, orF_some, l_map, Value.cells]
  cases Instr.fill _ _ _ <;> rfl
theorem bp100 (ps : Array (Nat × Value)) (H : Hp) (K : Value → Hp → Prop) : Lt Try.prog (Instr.build 100 ps) H K = orF (Instr.fill (#[(0, 1), (1, 1), (2, 1), (3, 1)][·]?) #[.pointer none, .pointer none, .pointer none, .string ⟨#[]⟩] ps.toList) (fun c => K (.agg c) H) := by
  simp only [Instr.build, l_bind, l_zero, zr100, orF_some, l_und, Try.underlying100]
  simp [l_bind, l_pure, l_size, sz9, sz17, orF_some, l_map, Value.cells]
  cases Instr.fill _ _ _ <;> rfl
theorem bp101 (ps : Array (Nat × Value)) (H : Hp) (K : Value → Hp → Prop) : Lt Try.prog (Instr.build 101 ps) H K = orF (Instr.fill (#[(0, 1), (1, 1), (2, 1), (3, 1)][·]?) #[.pointer none, .pointer none, .pointer none, .string ⟨#[]⟩] ps.toList) (fun c => K (.agg c) H) := by
  simp only [Instr.build, l_bind, l_zero, zr101, orF_some, l_und, Try.underlying101]
  simp [l_bind, l_pure, l_size, sz9, sz17, orF_some, l_map, Value.cells]
  cases Instr.fill _ _ _ <;> rfl
theorem bp103 (ps : Array (Nat × Value)) (H : Hp) (K : Value → Hp → Prop) : Lt Try.prog (Instr.build 103 ps) H K = orF (Instr.fill (#[(0, 0)][·]?) #[] ps.toList) (fun c => K (.agg c) H) := by
  simp only [Instr.build, l_bind, l_zero, zr103, orF_some, l_und, Try.underlying103]
  simp [l_bind, l_pure, l_size, sz102, orF_some, l_map, Value.cells]
  cases Instr.fill _ _ _ <;> rfl
theorem bp104 (ps : Array (Nat × Value)) (H : Hp) (K : Value → Hp → Prop) : Lt Try.prog (Instr.build 104 ps) H K = orF (Instr.fill (#[(0, 0)][·]?) #[] ps.toList) (fun c => K (.agg c) H) := by
  simp only [Instr.build, l_bind, l_zero, zr104, orF_some, l_und, Try.underlying104]
  simp [l_bind, l_pure, l_size, sz102, orF_some, l_map, Value.cells]
  cases Instr.fill _ _ _ <;> rfl
theorem bp112 (ps : Array (Nat × Value)) (H : Hp) (K : Value → Hp → Prop) : Lt Try.prog (Instr.build 112 ps) H K = orF (Instr.fill (#[(0, 1), (1, 1), (2, 1), (3, 1), (4, 1), (5, 1), (6, 1), (7, 1), (8, 1), (9, 1), (10, 1)][·]?) #[.int .u64 0, .int .u64 0, .int .u32 0, .int .u8 0, .int .u8 0, .int .u8 0, .int .u8 0, .nilFunc, .pointer none, .int .i32 0, .int .i32 0] ps.toList) (fun c => K (.agg c) H) := by
  simp only [Instr.build, l_bind, l_zero, zr112, orF_some, l_und, Try.underlying112]
  simp [l_bind, l_pure, l_size, sz5, sz12, sz105, sz106, sz107, sz108, sz109, sz110, sz111, orF_some, l_map, Value.cells]
  cases Instr.fill _ _ _ <;> rfl
theorem bp113 (ps : Array (Nat × Value)) (H : Hp) (K : Value → Hp → Prop) : Lt Try.prog (Instr.build 113 ps) H K = orF (Instr.fill (#[(0, 1), (1, 1), (2, 1), (3, 1), (4, 1), (5, 1), (6, 1), (7, 1), (8, 1), (9, 1), (10, 1)][·]?) #[.int .u64 0, .int .u64 0, .int .u32 0, .int .u8 0, .int .u8 0, .int .u8 0, .int .u8 0, .nilFunc, .pointer none, .int .i32 0, .int .i32 0] ps.toList) (fun c => K (.agg c) H) := by
  simp only [Instr.build, l_bind, l_zero, zr113, orF_some, l_und, Try.underlying113]
  simp [l_bind, l_pure, l_size, sz5, sz12, sz105, sz106, sz107, sz108, sz109, sz110, sz111, orF_some, l_map, Value.cells]
  cases Instr.fill _ _ _ <;> rfl
theorem flk7 : flatK Try.prog 8 7 = some [some .i64, some .i64, none, some .u8] := by kernel_rfl
theorem qfl7 (xs ys : List Value) (fx : Fit [some .i64, some .i64, none, some .u8] xs) (fy : Fit [some .i64, some .i64, none, some .u8] ys) {H : Hp} {K : Bool → Hp → Prop} : Lt Try.prog (Op.equalIn (9999 + 1) 7 (.agg xs.toArray) (.agg ys.toArray)) H K = K (eqV xs ys) H := by
  have h := q_flat 8 7 _ flk7 (9999 + 1) (by omega) xs ys fx fy H K
  have e : ∀ zs, wrapT Try.prog 7 zs = .agg zs.toArray := fun zs => by unfold wrapT; rw [Try.underlying7]; rfl
  rw [e, e] at h; exact h
theorem flk8 : flatK Try.prog 8 8 = some [some .i64, some .i64, none, some .u8] := by kernel_rfl
theorem qfl8 (xs ys : List Value) (fx : Fit [some .i64, some .i64, none, some .u8] xs) (fy : Fit [some .i64, some .i64, none, some .u8] ys) {H : Hp} {K : Bool → Hp → Prop} : Lt Try.prog (Op.equalIn (9999 + 1) 8 (.agg xs.toArray) (.agg ys.toArray)) H K = K (eqV xs ys) H := by
  have h := q_flat 8 8 _ flk8 (9999 + 1) (by omega) xs ys fx fy H K
  have e : ∀ zs, wrapT Try.prog 8 zs = .agg zs.toArray := fun zs => by unfold wrapT; rw [Try.underlying8]; rfl
  rw [e, e] at h; exact h
theorem flk46 : flatK Try.prog 8 46 = some [some .i64, some .i64, some .i64, some .i64, some .i64, some .i64] := by kernel_rfl
theorem qfl46 (xs ys : List Value) (fx : Fit [some .i64, some .i64, some .i64, some .i64, some .i64, some .i64] xs) (fy : Fit [some .i64, some .i64, some .i64, some .i64, some .i64, some .i64] ys) {H : Hp} {K : Bool → Hp → Prop} : Lt Try.prog (Op.equalIn (9999 + 1) 46 (.agg xs.toArray) (.agg ys.toArray)) H K = K (eqV xs ys) H := by
  have h := q_flat 8 46 _ flk46 (9999 + 1) (by omega) xs ys fx fy H K
  have e : ∀ zs, wrapT Try.prog 46 zs = .agg zs.toArray := fun zs => by unfold wrapT; rw [Try.underlying46]; rfl
  rw [e, e] at h; exact h
theorem flk47 : flatK Try.prog 8 47 = some [some .i64, some .i64, some .i64, some .i64, some .i64, some .i64] := by kernel_rfl
theorem qfl47 (xs ys : List Value) (fx : Fit [some .i64, some .i64, some .i64, some .i64, some .i64, some .i64] xs) (fy : Fit [some .i64, some .i64, some .i64, some .i64, some .i64, some .i64] ys) {H : Hp} {K : Bool → Hp → Prop} : Lt Try.prog (Op.equalIn (9999 + 1) 47 (.agg xs.toArray) (.agg ys.toArray)) H K = K (eqV xs ys) H := by
  have h := q_flat 8 47 _ flk47 (9999 + 1) (by omega) xs ys fx fy H K
  have e : ∀ zs, wrapT Try.prog 47 zs = .agg zs.toArray := fun zs => by unfold wrapT; rw [Try.underlying47]; rfl
  rw [e, e] at h; exact h
theorem bd3 : bodied Try.prog 3 = true := by kernel_rfl
theorem bd4 : bodied Try.prog 4 = true := by kernel_rfl
theorem bd5 : bodied Try.prog 5 = true := by kernel_rfl
theorem bd6 : bodied Try.prog 6 = true := by kernel_rfl
theorem bd7 : bodied Try.prog 7 = true := by kernel_rfl
theorem bd8 : bodied Try.prog 8 = true := by kernel_rfl
theorem bd9 : bodied Try.prog 9 = true := by kernel_rfl
theorem bd10 : bodied Try.prog 10 = true := by kernel_rfl
theorem bd11 : bodied Try.prog 11 = true := by kernel_rfl
theorem bd12 : bodied Try.prog 12 = true := by kernel_rfl
theorem bd13 : bodied Try.prog 13 = true := by kernel_rfl
theorem bd14 : bodied Try.prog 14 = true := by kernel_rfl
theorem bd15 : bodied Try.prog 15 = true := by kernel_rfl
theorem bd16 : bodied Try.prog 16 = true := by kernel_rfl
theorem bd17 : bodied Try.prog 17 = true := by kernel_rfl
theorem bd18 : bodied Try.prog 18 = true := by kernel_rfl
theorem bd19 : bodied Try.prog 19 = true := by kernel_rfl
theorem bd20 : bodied Try.prog 20 = true := by kernel_rfl
theorem bd21 : bodied Try.prog 21 = true := by kernel_rfl
theorem bd22 : bodied Try.prog 22 = true := by kernel_rfl
theorem bd23 : bodied Try.prog 23 = true := by kernel_rfl
theorem bd24 : bodied Try.prog 24 = true := by kernel_rfl
theorem bd25 : bodied Try.prog 25 = true := by kernel_rfl
theorem bd26 : bodied Try.prog 26 = true := by kernel_rfl
theorem bd27 : bodied Try.prog 27 = true := by kernel_rfl
theorem bd28 : bodied Try.prog 28 = true := by kernel_rfl
theorem bd29 : bodied Try.prog 29 = true := by kernel_rfl
theorem bd30 : bodied Try.prog 30 = true := by kernel_rfl
theorem bd31 : bodied Try.prog 31 = true := by kernel_rfl
theorem bd32 : bodied Try.prog 32 = true := by kernel_rfl
theorem bd33 : bodied Try.prog 33 = true := by kernel_rfl
theorem bd34 : bodied Try.prog 34 = true := by kernel_rfl
theorem bd35 : bodied Try.prog 35 = true := by kernel_rfl
theorem bd36 : bodied Try.prog 36 = true := by kernel_rfl
theorem bd37 : bodied Try.prog 37 = true := by kernel_rfl
theorem bd38 : bodied Try.prog 38 = true := by kernel_rfl
theorem bd39 : bodied Try.prog 39 = true := by kernel_rfl
theorem bd40 : bodied Try.prog 40 = true := by kernel_rfl
theorem bd41 : bodied Try.prog 41 = true := by kernel_rfl
theorem bd42 : bodied Try.prog 42 = true := by kernel_rfl
theorem bd43 : bodied Try.prog 43 = true := by kernel_rfl
theorem bd44 : bodied Try.prog 44 = true := by kernel_rfl
theorem bd45 : bodied Try.prog 45 = true := by kernel_rfl
theorem bd46 : bodied Try.prog 46 = true := by kernel_rfl
theorem bd47 : bodied Try.prog 47 = true := by kernel_rfl
theorem bd48 : bodied Try.prog 48 = true := by kernel_rfl
theorem bd49 : bodied Try.prog 49 = true := by kernel_rfl
theorem bd50 : bodied Try.prog 50 = true := by kernel_rfl
theorem bd51 : bodied Try.prog 51 = true := by kernel_rfl
theorem bd52 : bodied Try.prog 52 = true := by kernel_rfl
theorem bd53 : bodied Try.prog 53 = true := by kernel_rfl
theorem bd54 : bodied Try.prog 54 = true := by kernel_rfl
theorem bd55 : bodied Try.prog 55 = true := by kernel_rfl
theorem bd56 : bodied Try.prog 56 = true := by kernel_rfl
theorem bd57 : bodied Try.prog 57 = true := by kernel_rfl
theorem bd58 : bodied Try.prog 58 = true := by kernel_rfl
theorem bd59 : bodied Try.prog 59 = true := by kernel_rfl
theorem bd60 : bodied Try.prog 60 = true := by kernel_rfl
theorem bd61 : bodied Try.prog 61 = true := by kernel_rfl
end Go.Proofs.Ytlkopcgoaldpeaa.HL
