import Derived.Test.Qxb6500567aGreatRows
import Derived.Test.Qxb6500567aGreatFo
namespace Go.Proofs.Qxb6500567aGreat
set_option maxRecDepth 100000

theorem ag_41 : aggB Tryz.prog 41 1 = true := by kernel_rfl
theorem ag_55 : aggB Tryz.prog 55 8 = true := by kernel_rfl
theorem ag_57 : aggB Tryz.prog 57 11 = true := by kernel_rfl
theorem ag_69 : aggB Tryz.prog 69 6 = true := by kernel_rfl
theorem ag_76 : aggB Tryz.prog 76 6 = true := by kernel_rfl
theorem ag_84 : aggB Tryz.prog 84 4 = true := by kernel_rfl
theorem ag_87 : aggB Tryz.prog 87 4 = true := by kernel_rfl
theorem ag_89 : aggB Tryz.prog 89 11 = true := by kernel_rfl
theorem ag_90 : aggB Tryz.prog 90 264 = true := by kernel_rfl
theorem ag_91 : aggB Tryz.prog 91 24 = true := by kernel_rfl
theorem ag_93 : aggB Tryz.prog 93 5 = true := by kernel_rfl
theorem ag_94 : aggB Tryz.prog 94 30 = true := by kernel_rfl
theorem ag_96 : aggB Tryz.prog 96 325 = true := by kernel_rfl
theorem ag_101 : aggB Tryz.prog 101 9 = true := by kernel_rfl
theorem ag_102 : aggB Tryz.prog 102 64 = true := by kernel_rfl
theorem ag_105 : aggB Tryz.prog 105 260 = true := by kernel_rfl
theorem ag_108 : aggB Tryz.prog 108 266 = true := by kernel_rfl
theorem ag_110 : aggB Tryz.prog 110 6 = true := by kernel_rfl
theorem ag_112 : aggB Tryz.prog 112 16 = true := by kernel_rfl
theorem ag_114 : aggB Tryz.prog 114 5 = true := by kernel_rfl
theorem ag_115 : aggB Tryz.prog 115 10 = true := by kernel_rfl
theorem ag_117 : aggB Tryz.prog 117 13 = true := by kernel_rfl
theorem ag_120 : aggB Tryz.prog 120 5 = true := by kernel_rfl
theorem ag_130 : aggB Tryz.prog 130 2 = true := by kernel_rfl
theorem ag_133 : aggB Tryz.prog 133 2 = true := by kernel_rfl
theorem ag_135 : aggB Tryz.prog 135 1 = true := by kernel_rfl
theorem ag_137 : aggB Tryz.prog 137 2 = true := by kernel_rfl
theorem ag_146 : aggB Tryz.prog 146 3 = true := by kernel_rfl
theorem ag_151 : aggB Tryz.prog 151 5 = true := by kernel_rfl
theorem ag_168 : aggB Tryz.prog 168 3 = true := by kernel_rfl
theorem ag_171 : aggB Tryz.prog 171 3 = true := by kernel_rfl
theorem ag_175 : aggB Tryz.prog 175 7 = true := by kernel_rfl
theorem ag_182 : aggB Tryz.prog 182 3 = true := by kernel_rfl
theorem ag_187 : aggB Tryz.prog 187 6 = true := by kernel_rfl
theorem ag_193 : aggB Tryz.prog 193 6 = true := by kernel_rfl
theorem ag_202 : aggB Tryz.prog 202 4 = true := by kernel_rfl
theorem ag_215 : aggB Tryz.prog 215 9 = true := by kernel_rfl
theorem ag_231 : aggB Tryz.prog 231 3 = true := by kernel_rfl
theorem ar_55 : arrB Tryz.prog 55 8 3 1 = true := by kernel_rfl
theorem ar_87 : arrB Tryz.prog 87 4 85 1 = true := by kernel_rfl
theorem ar_90 : arrB Tryz.prog 90 24 89 11 = true := by kernel_rfl
theorem ar_91 : arrB Tryz.prog 91 24 4 1 = true := by kernel_rfl
theorem ar_94 : arrB Tryz.prog 94 6 93 5 = true := by kernel_rfl
theorem ar_102 : arrB Tryz.prog 102 64 3 1 = true := by kernel_rfl
theorem ar_105 : arrB Tryz.prog 105 2 104 130 = true := by kernel_rfl
theorem ar_110 : arrB Tryz.prog 110 6 85 1 = true := by kernel_rfl
theorem ar_115 : arrB Tryz.prog 115 2 114 5 = true := by kernel_rfl
theorem ar_231 : arrB Tryz.prog 231 3 3 1 = true := by kernel_rfl
theorem bb_3 : ((Tryz.prog.info? 3).any fun i => Nat.ble i.bytes 1000) = true := by kernel_rfl
theorem bb_4 : ((Tryz.prog.info? 4).any fun i => Nat.ble i.bytes 1000) = true := by kernel_rfl
theorem bb_5 : ((Tryz.prog.info? 5).any fun i => Nat.ble i.bytes 1000) = true := by kernel_rfl
theorem bb_9 : ((Tryz.prog.info? 9).any fun i => Nat.ble i.bytes 1000) = true := by kernel_rfl
theorem bb_22 : ((Tryz.prog.info? 22).any fun i => Nat.ble i.bytes 1000) = true := by kernel_rfl
theorem bb_24 : ((Tryz.prog.info? 24).any fun i => Nat.ble i.bytes 1000) = true := by kernel_rfl
theorem bb_55 : ((Tryz.prog.info? 55).any fun i => Nat.ble i.bytes 1000) = true := by kernel_rfl
theorem bb_89 : ((Tryz.prog.info? 89).any fun i => Nat.ble i.bytes 1000) = true := by kernel_rfl
theorem bb_130 : ((Tryz.prog.info? 130).any fun i => Nat.ble i.bytes 1000) = true := by kernel_rfl
theorem bb_133 : ((Tryz.prog.info? 133).any fun i => Nat.ble i.bytes 1000) = true := by kernel_rfl
theorem bb_146 : ((Tryz.prog.info? 146).any fun i => Nat.ble i.bytes 1000) = true := by kernel_rfl
theorem bb_171 : ((Tryz.prog.info? 171).any fun i => Nat.ble i.bytes 1000) = true := by kernel_rfl
theorem bb_175 : ((Tryz.prog.info? 175).any fun i => Nat.ble i.bytes 1000) = true := by kernel_rfl
theorem bb_182 : ((Tryz.prog.info? 182).any fun i => Nat.ble i.bytes 1000) = true := by kernel_rfl
theorem bb_202 : ((Tryz.prog.info? 202).any fun i => Nat.ble i.bytes 1000) = true := by kernel_rfl
theorem bb_215 : ((Tryz.prog.info? 215).any fun i => Nat.ble i.bytes 1000) = true := by kernel_rfl
theorem bld_41_0 {x0 : Option Addr} : Tryz.prog.built 41 [(0, .pointer x0)] = some #[.pointer x0] := by kernel_rfl
theorem bld_57_0_1_3 {x0 : Int} {x1 : Int} {x30 : Int} {x31 : Int} {x32 : Int} {x33 : Int} {x34 : Int} {x35 : Int} {x36 : Int} {x37 : Int} : Tryz.prog.built 57 [(0, .int .i64 x0), (1, .int .i64 x1), (3, .agg #[.int .i64 x30, .int .i64 x31, .int .i64 x32, .int .i64 x33, .int .i64 x34, .int .i64 x35, .int .i64 x36, .int .i64 x37])] = some #[.int .i64 x0, .int .i64 x1, .bool false, .int .i64 x30, .int .i64 x31, .int .i64 x32, .int .i64 x33, .int .i64 x34, .int .i64 x35, .int .i64 x36, .int .i64 x37] := by kernel_rfl
theorem bld_57_2_3 {x2 : Bool} {x30 : Int} {x31 : Int} {x32 : Int} {x33 : Int} {x34 : Int} {x35 : Int} {x36 : Int} {x37 : Int} : Tryz.prog.built 57 [(2, .bool x2), (3, .agg #[.int .i64 x30, .int .i64 x31, .int .i64 x32, .int .i64 x33, .int .i64 x34, .int .i64 x35, .int .i64 x36, .int .i64 x37])] = some #[.int .i64 0, .int .i64 0, .bool x2, .int .i64 x30, .int .i64 x31, .int .i64 x32, .int .i64 x33, .int .i64 x34, .int .i64 x35, .int .i64 x36, .int .i64 x37] := by kernel_rfl
theorem bld_57_3 {x30 : Int} {x31 : Int} {x32 : Int} {x33 : Int} {x34 : Int} {x35 : Int} {x36 : Int} {x37 : Int} : Tryz.prog.built 57 [(3, .agg #[.int .i64 x30, .int .i64 x31, .int .i64 x32, .int .i64 x33, .int .i64 x34, .int .i64 x35, .int .i64 x36, .int .i64 x37])] = some #[.int .i64 0, .int .i64 0, .bool false, .int .i64 x30, .int .i64 x31, .int .i64 x32, .int .i64 x33, .int .i64 x34, .int .i64 x35, .int .i64 x36, .int .i64 x37] := by kernel_rfl
theorem bld_76  : Tryz.prog.built 76 [] = some #[.slice none 0 0, .slice none 0 0, S [], .int .i64 0, .slice none 0 0, .slice none 0 0] := by kernel_rfl
theorem bld_84_0_1 {x0 : Option Addr} {x1 : Option Addr} : Tryz.prog.built 84 [(0, .pointer x0), (1, .pointer x1)] = some #[.pointer x0, .pointer x1, .int .i64 0, .int .i64 0] := by kernel_rfl
theorem bld_87  : Tryz.prog.built 87 [] = some #[.int .u64 0, .int .u64 0, .int .u64 0, .int .u64 0] := by kernel_rfl
theorem bld_89_0_1_2 {x0 : Int} {x1 : Int} {x2 : Int} : Tryz.prog.built 89 [(0, .int .i64 x0), (1, .int .i64 x1), (2, .int .i64 x2)] = some #[.int .i64 x0, .int .i64 x1, .int .i64 x2, .int .i64 0, .int .i64 0, .int .i64 0, .bool false, .int .u64 0, .int .u64 0, .int .u64 0, .int .u64 0] := by kernel_rfl
theorem bld_89_0_1_2_3_4_6 {x0 : Int} {x1 : Int} {x2 : Int} {x3 : Int} {x4 : Int} {x6 : Bool} : Tryz.prog.built 89 [(0, .int .i64 x0), (1, .int .i64 x1), (2, .int .i64 x2), (3, .int .i64 x3), (4, .int .i64 x4), (6, .bool x6)] = some #[.int .i64 x0, .int .i64 x1, .int .i64 x2, .int .i64 x3, .int .i64 x4, .int .i64 0, .bool x6, .int .u64 0, .int .u64 0, .int .u64 0, .int .u64 0] := by kernel_rfl
theorem bld_89_0_1_2_5 {x0 : Int} {x1 : Int} {x2 : Int} {x5 : Int} : Tryz.prog.built 89 [(0, .int .i64 x0), (1, .int .i64 x1), (2, .int .i64 x2), (5, .int .i64 x5)] = some #[.int .i64 x0, .int .i64 x1, .int .i64 x2, .int .i64 0, .int .i64 0, .int .i64 x5, .bool false, .int .u64 0, .int .u64 0, .int .u64 0, .int .u64 0] := by kernel_rfl
theorem bld_89_0_1_2_7 {x0 : Int} {x1 : Int} {x2 : Int} {x70 : Int} {x71 : Int} {x72 : Int} {x73 : Int} : Tryz.prog.built 89 [(0, .int .i64 x0), (1, .int .i64 x1), (2, .int .i64 x2), (7, .agg #[.int .u64 x70, .int .u64 x71, .int .u64 x72, .int .u64 x73])] = some #[.int .i64 x0, .int .i64 x1, .int .i64 x2, .int .i64 0, .int .i64 0, .int .i64 0, .bool false, .int .u64 x70, .int .u64 x71, .int .u64 x72, .int .u64 x73] := by kernel_rfl
theorem bld_93_0_1_2 {x0 : Int} {x1 : Int} {x2 : Int} : Tryz.prog.built 93 [(0, .int .i64 x0), (1, .int .i64 x1), (2, .int .i64 x2)] = some #[.int .i64 x0, .int .i64 x1, .int .i64 x2, .int .i64 0, .int .i64 0] := by kernel_rfl
theorem bld_93_0_1_2_3_4 {x0 : Int} {x1 : Int} {x2 : Int} {x3 : Int} {x4 : Int} : Tryz.prog.built 93 [(0, .int .i64 x0), (1, .int .i64 x1), (2, .int .i64 x2), (3, .int .i64 x3), (4, .int .i64 x4)] = some #[.int .i64 x0, .int .i64 x1, .int .i64 x2, .int .i64 x3, .int .i64 x4] := by kernel_rfl
theorem bld_96  : Tryz.prog.built 96 [] = some #[S [], .int .i64 0, .int .i64 0, .int .i64 0, .int .i64 0, .int .i64 0, .int .i64 0, .int .i64 0, .bool false, .int .u64 0, .int .u64 0, .int .u64 0, .int .u64 0, .int .i64 0, .int .i64 0, .int .i64 0, .int .i64 0, .int .i64 0, .int .i64 0, .bool false, .int .u64 0, .int .u64 0, .int .u64 0, .int .u64 0, .int .i64 0, .int .i64 0, .int .i64 0, .int .i64 0, .int .i64 0, .int .i64 0, .bool false, .int .u64 0, .int .u64 0, .int .u64 0, .int .u64 0, .int .i64 0, .int .i64 0, .int .i64 0, .int .i64 0, .int .i64 0, .int .i64 0, .bool false, .int .u64 0, .int .u64 0, .int .u64 0, .int .u64 0, .int .i64 0, .int .i64 0, .int .i64 0, .int .i64 0, .int .i64 0, .int .i64 0, .bool false, .int .u64 0, .int .u64 0, .int .u64 0, .int .u64 0, .int .i64 0, .int .i64 0, .int .i64 0, .int .i64 0, .int .i64 0, .int .i64 0, .bool false, .int .u64 0, .int .u64 0, .int .u64 0, .int .u64 0, .int .i64 0, .int .i64 0, .int .i64 0, .int .i64 0, .int .i64 0, .int .i64 0, .bool false, .int .u64 0, .int .u64 0, .int .u64 0, .int .u64 0, .int .i64 0, .int .i64 0, .int .i64 0, .int .i64 0, .int .i64 0, .int .i64 0, .bool false, .int .u64 0, .int .u64 0, .int .u64 0, .int .u64 0, .int .i64 0, .int .i64 0, .int .i64 0, .int .i64 0, .int .i64 0, .int .i64 0, .bool false, .int .u64 0, .int .u64 0, .int .u64 0, .int .u64 0, .int .i64 0, .int .i64 0, .int .i64 0, .int .i64 0, .int .i64 0, .int .i64 0, .bool false, .int .u64 0, .int .u64 0, .int .u64 0, .int .u64 0, .int .i64 0, .int .i64 0, .int .i64 0, .int .i64 0, .int .i64 0, .int .i64 0, .bool false, .int .u64 0, .int .u64 0, .int .u64 0, .int .u64 0, .int .i64 0, .int .i64 0, .int .i64 0, .int .i64 0, .int .i64 0, .int .i64 0, .bool false, .int .u64 0, .int .u64 0, .int .u64 0, .int .u64 0, .int .i64 0, .int .i64 0, .int .i64 0, .int .i64 0, .int .i64 0, .int .i64 0, .bool false, .int .u64 0, .int .u64 0, .int .u64 0, .int .u64 0, .int .i64 0, .int .i64 0, .int .i64 0, .int .i64 0, .int .i64 0, .int .i64 0, .bool false, .int .u64 0, .int .u64 0, .int .u64 0, .int .u64 0, .int .i64 0, .int .i64 0, .int .i64 0, .int .i64 0, .int .i64 0, .int .i64 0, .bool false, .int .u64 0, .int .u64 0, .int .u64 0, .int .u64 0, .int .i64 0, .int .i64 0, .int .i64 0, .int .i64 0, .int .i64 0, .int .i64 0, .bool false, .int .u64 0, .int .u64 0, .int .u64 0, .int .u64 0, .int .i64 0, .int .i64 0, .int .i64 0, .int .i64 0, .int .i64 0, .int .i64 0, .bool false, .int .u64 0, .int .u64 0, .int .u64 0, .int .u64 0, .int .i64 0, .int .i64 0, .int .i64 0, .int .i64 0, .int .i64 0, .int .i64 0, .bool false, .int .u64 0, .int .u64 0, .int .u64 0, .int .u64 0, .int .i64 0, .int .i64 0, .int .i64 0, .int .i64 0, .int .i64 0, .int .i64 0, .bool false, .int .u64 0, .int .u64 0, .int .u64 0, .int .u64 0, .int .i64 0, .int .i64 0, .int .i64 0, .int .i64 0, .int .i64 0, .int .i64 0, .bool false, .int .u64 0, .int .u64 0, .int .u64 0, .int .u64 0, .int .i64 0, .int .i64 0, .int .i64 0, .int .i64 0, .int .i64 0, .int .i64 0, .bool false, .int .u64 0, .int .u64 0, .int .u64 0, .int .u64 0, .int .i64 0, .int .i64 0, .int .i64 0, .int .i64 0, .int .i64 0, .int .i64 0, .bool false, .int .u64 0, .int .u64 0, .int .u64 0, .int .u64 0, .int .i64 0, .int .i64 0, .int .i64 0, .int .i64 0, .int .i64 0, .int .i64 0, .bool false, .int .u64 0, .int .u64 0, .int .u64 0, .int .u64 0, .int .i64 0, .int .i64 0, .int .i64 0, .int .i64 0, .int .i64 0, .int .i64 0, .bool false, .int .u64 0, .int .u64 0, .int .u64 0, .int .u64 0, .bool false, .bool false, .bool false, .bool false, .bool false, .bool false, .bool false, .bool false, .bool false, .bool false, .bool false, .bool false, .bool false, .bool false, .bool false, .bool false, .bool false, .bool false, .bool false, .bool false, .bool false, .bool false, .bool false, .bool false, .int .i64 0, .int .i64 0, .int .i64 0, .int .i64 0, .int .i64 0, .int .i64 0, .int .i64 0, .int .i64 0, .int .i64 0, .int .i64 0, .int .i64 0, .int .i64 0, .int .i64 0, .int .i64 0, .int .i64 0, .int .i64 0, .int .i64 0, .int .i64 0, .int .i64 0, .int .i64 0, .int .i64 0, .int .i64 0, .int .i64 0, .int .i64 0, .int .i64 0, .int .i64 0, .int .i64 0, .int .i64 0, .int .i64 0, .int .i64 0, .int .i64 0, .int .i64 0, .int .i64 0, .int .i64 0, .int .i64 0] := by kernel_rfl
theorem bld_101_0 {x0 : Option Addr} : Tryz.prog.built 101 [(0, .pointer x0)] = some #[.pointer x0, .slice none 0 0, .slice none 0 0, .slice none 0 0, .int .i64 0, .slice none 0 0, .int .i64 0, .slice none 0 0, .int .i64 0] := by kernel_rfl
theorem bld_108  : Tryz.prog.built 108 [] = some #[.int .i64 0, .int .i64 0, .int .i64 0, .int .i64 0, .int .i64 0, .int .i64 0, .int .i64 0, .int .i64 0, .int .i64 0, .int .i64 0, .int .i64 0, .int .i64 0, .int .i64 0, .int .i64 0, .int .i64 0, .int .i64 0, .int .i64 0, .int .i64 0, .int .i64 0, .int .i64 0, .int .i64 0, .int .i64 0, .int .i64 0, .int .i64 0, .int .i64 0, .int .i64 0, .int .i64 0, .int .i64 0, .int .i64 0, .int .i64 0, .int .i64 0, .int .i64 0, .int .i64 0, .int .i64 0, .int .i64 0, .int .i64 0, .int .i64 0, .int .i64 0, .int .i64 0, .int .i64 0, .int .i64 0, .int .i64 0, .int .i64 0, .int .i64 0, .int .i64 0, .int .i64 0, .int .i64 0, .int .i64 0, .int .i64 0, .int .i64 0, .int .i64 0, .int .i64 0, .int .i64 0, .int .i64 0, .int .i64 0, .int .i64 0, .int .i64 0, .int .i64 0, .int .i64 0, .int .i64 0, .int .i64 0, .int .i64 0, .int .i64 0, .int .i64 0, .int .i64 0, .int .i64 0, .int .i64 0, .int .i64 0, .int .i64 0, .int .i64 0, .int .i64 0, .int .i64 0, .int .i64 0, .int .i64 0, .int .i64 0, .int .i64 0, .int .i64 0, .int .i64 0, .int .i64 0, .int .i64 0, .int .i64 0, .int .i64 0, .int .i64 0, .int .i64 0, .int .i64 0, .int .i64 0, .int .i64 0, .int .i64 0, .int .i64 0, .int .i64 0, .int .i64 0, .int .i64 0, .int .i64 0, .int .i64 0, .int .i64 0, .int .i64 0, .int .i64 0, .int .i64 0, .int .i64 0, .int .i64 0, .int .i64 0, .int .i64 0, .int .i64 0, .int .i64 0, .int .i64 0, .int .i64 0, .int .i64 0, .int .i64 0, .int .i64 0, .int .i64 0, .int .i64 0, .int .i64 0, .int .i64 0, .int .i64 0, .int .i64 0, .int .i64 0, .int .i64 0, .int .i64 0, .int .i64 0, .int .i64 0, .int .i64 0, .int .i64 0, .int .i64 0, .int .i64 0, .int .i64 0, .int .i64 0, .int .i64 0, .int .i64 0, .int .i64 0, .slice none 0 0, .int .i64 0, .int .i64 0, .int .i64 0, .int .i64 0, .int .i64 0, .int .i64 0, .int .i64 0, .int .i64 0, .int .i64 0, .int .i64 0, .int .i64 0, .int .i64 0, .int .i64 0, .int .i64 0, .int .i64 0, .int .i64 0, .int .i64 0, .int .i64 0, .int .i64 0, .int .i64 0, .int .i64 0, .int .i64 0, .int .i64 0, .int .i64 0, .int .i64 0, .int .i64 0, .int .i64 0, .int .i64 0, .int .i64 0, .int .i64 0, .int .i64 0, .int .i64 0, .int .i64 0, .int .i64 0, .int .i64 0, .int .i64 0, .int .i64 0, .int .i64 0, .int .i64 0, .int .i64 0, .int .i64 0, .int .i64 0, .int .i64 0, .int .i64 0, .int .i64 0, .int .i64 0, .int .i64 0, .int .i64 0, .int .i64 0, .int .i64 0, .int .i64 0, .int .i64 0, .int .i64 0, .int .i64 0, .int .i64 0, .int .i64 0, .int .i64 0, .int .i64 0, .int .i64 0, .int .i64 0, .int .i64 0, .int .i64 0, .int .i64 0, .int .i64 0, .int .i64 0, .int .i64 0, .int .i64 0, .int .i64 0, .int .i64 0, .int .i64 0, .int .i64 0, .int .i64 0, .int .i64 0, .int .i64 0, .int .i64 0, .int .i64 0, .int .i64 0, .int .i64 0, .int .i64 0, .int .i64 0, .int .i64 0, .int .i64 0, .int .i64 0, .int .i64 0, .int .i64 0, .int .i64 0, .int .i64 0, .int .i64 0, .int .i64 0, .int .i64 0, .int .i64 0, .int .i64 0, .int .i64 0, .int .i64 0, .int .i64 0, .int .i64 0, .int .i64 0, .int .i64 0, .int .i64 0, .int .i64 0, .int .i64 0, .int .i64 0, .int .i64 0, .int .i64 0, .int .i64 0, .int .i64 0, .int .i64 0, .int .i64 0, .int .i64 0, .int .i64 0, .int .i64 0, .int .i64 0, .int .i64 0, .int .i64 0, .int .i64 0, .int .i64 0, .int .i64 0, .int .i64 0, .int .i64 0, .int .i64 0, .int .i64 0, .int .i64 0, .int .i64 0, .int .i64 0, .int .i64 0, .int .i64 0, .int .i64 0, .int .i64 0, .int .i64 0, .slice none 0 0, .slice none 0 0, .int .i64 0, .slice none 0 0, .slice none 0 0, .slice none 0 0, .int .i64 0] := by kernel_rfl
theorem bld_112  : Tryz.prog.built 112 [] = some #[.slice none 0 0, .int .u64 0, .int .u64 0, .int .u64 0, .int .u64 0, .int .u64 0, .int .u64 0, .int .u64 0, .int .u64 0, .int .u64 0, .int .i64 0, .slice none 0 0, .slice none 0 0, .int .i64 0, .int .i64 0, .int .i64 0] := by kernel_rfl
theorem bld_114_0_1_3_4 {x0 : Bool} {x1 : ByteArray} {x3 : Int} {x4 : Int} : Tryz.prog.built 114 [(0, .bool x0), (1, .string x1), (3, .int .i64 x3), (4, .int .i64 x4)] = some #[.bool x0, .string x1, .slice none 0 0, .int .i64 x3, .int .i64 x4] := by kernel_rfl
theorem bld_117_0_1_2 {x0 : Option Addr} {x1 : Option Addr} {x2 : Option Addr} : Tryz.prog.built 117 [(0, .pointer x0), (1, .pointer x1), (2, .pointer x2)] = some #[.pointer x0, .pointer x1, .pointer x2, .bool false, S [], .slice none 0 0, .int .i64 0, .int .i64 0, .bool false, S [], .slice none 0 0, .int .i64 0, .int .i64 0] := by kernel_rfl
theorem bld_120_0 {x0 : Option Addr} : Tryz.prog.built 120 [(0, .pointer x0)] = some #[.pointer x0, .slice none 0 0, .int .i64 0, .slice none 0 0, .int .i64 0] := by kernel_rfl
theorem bld_130_0_1 {x0 : Option Addr} {x0n x0c : Nat} {x1 : Option Addr} {x1n x1c : Nat} : Tryz.prog.built 130 [(0, .slice x0 x0n x0c), (1, .slice x1 x1n x1c)] = some #[.slice x0 x0n x0c, .slice x1 x1n x1c] := by kernel_rfl
theorem bld_133_0_1 {x0 : Option Addr} {x0n x0c : Nat} {x1 : Option Addr} {x1n x1c : Nat} : Tryz.prog.built 133 [(0, .slice x0 x0n x0c), (1, .slice x1 x1n x1c)] = some #[.slice x0 x0n x0c, .slice x1 x1n x1c] := by kernel_rfl
theorem bld_135  : Tryz.prog.built 135 [] = some #[.int .i64 0] := by kernel_rfl
theorem bld_137_0 {x0 : Option Addr} : Tryz.prog.built 137 [(0, .pointer x0)] = some #[.pointer x0, .int .i64 0] := by kernel_rfl
theorem bld_146_0_1_2 {x0 : Int} {x1 : Int} {x2 : Int} : Tryz.prog.built 146 [(0, .int .i64 x0), (1, .int .i64 x1), (2, .int .i64 x2)] = some #[.int .i64 x0, .int .i64 x1, .int .i64 x2] := by kernel_rfl
theorem bld_146_2 {x2 : Int} : Tryz.prog.built 146 [(2, .int .i64 x2)] = some #[.int .i64 0, .int .i64 0, .int .i64 x2] := by kernel_rfl
theorem bld_151_0 {x0 : Option Addr} {x0n x0c : Nat} : Tryz.prog.built 151 [(0, .slice x0 x0n x0c)] = some #[.slice x0 x0n x0c, .int .i64 0, .int .i64 0, .int .i64 0, .int .i64 0] := by kernel_rfl
theorem bld_151_0_1_2 {x0 : Option Addr} {x0n x0c : Nat} {x1 : Int} {x2 : Int} : Tryz.prog.built 151 [(0, .slice x0 x0n x0c), (1, .int .i64 x1), (2, .int .i64 x2)] = some #[.slice x0 x0n x0c, .int .i64 x1, .int .i64 x2, .int .i64 0, .int .i64 0] := by kernel_rfl
theorem bld_151_1_3_4 {x1 : Int} {x3 : Int} {x4 : Int} : Tryz.prog.built 151 [(1, .int .i64 x1), (3, .int .i64 x3), (4, .int .i64 x4)] = some #[.slice none 0 0, .int .i64 x1, .int .i64 0, .int .i64 x3, .int .i64 x4] := by kernel_rfl
theorem bld_168_0 {x0 : Option Addr} {x0n x0c : Nat} : Tryz.prog.built 168 [(0, .slice x0 x0n x0c)] = some #[.slice x0 x0n x0c, .slice none 0 0, .slice none 0 0] := by kernel_rfl
theorem bld_171_0_1_2 {x0 : Int} {x1 : Int} {x2 : Int} : Tryz.prog.built 171 [(0, .int .i64 x0), (1, .int .i64 x1), (2, .int .i64 x2)] = some #[.int .i64 x0, .int .i64 x1, .int .i64 x2] := by kernel_rfl
theorem bld_175_0 {x0 : Int} : Tryz.prog.built 175 [(0, .int .i64 x0)] = some #[.int .i64 x0, .int .i64 0, .int .i64 0, .int .u64 0, .int .u64 0, .int .u64 0, .int .u64 0] := by kernel_rfl
theorem bld_175_0_1 {x0 : Int} {x1 : Int} : Tryz.prog.built 175 [(0, .int .i64 x0), (1, .int .i64 x1)] = some #[.int .i64 x0, .int .i64 x1, .int .i64 0, .int .u64 0, .int .u64 0, .int .u64 0, .int .u64 0] := by kernel_rfl
theorem bld_175_0_1_2 {x0 : Int} {x1 : Int} {x2 : Int} : Tryz.prog.built 175 [(0, .int .i64 x0), (1, .int .i64 x1), (2, .int .i64 x2)] = some #[.int .i64 x0, .int .i64 x1, .int .i64 x2, .int .u64 0, .int .u64 0, .int .u64 0, .int .u64 0] := by kernel_rfl
theorem bld_175_0_3 {x0 : Int} {x30 : Int} {x31 : Int} {x32 : Int} {x33 : Int} : Tryz.prog.built 175 [(0, .int .i64 x0), (3, .agg #[.int .u64 x30, .int .u64 x31, .int .u64 x32, .int .u64 x33])] = some #[.int .i64 x0, .int .i64 0, .int .i64 0, .int .u64 x30, .int .u64 x31, .int .u64 x32, .int .u64 x33] := by kernel_rfl
theorem bld_182_0_1_2 {x0 : Int} {x1 : Int} {x2 : Int} : Tryz.prog.built 182 [(0, .int .i64 x0), (1, .int .i64 x1), (2, .int .i64 x2)] = some #[.int .i64 x0, .int .i64 x1, .int .i64 x2] := by kernel_rfl
theorem bld_187_0 {x0 : ByteArray} : Tryz.prog.built 187 [(0, .string x0)] = some #[.string x0, .int .i64 0, .slice none 0 0, .int .i64 0, .int .i64 0, .int .i64 0] := by kernel_rfl
theorem bld_193_0 {x0f0 : Option Addr} {x0f0n x0f0c : Nat} {x0f1 : Int} {x0f2 : Int} {x0f3 : Int} {x0f4 : Int} : Tryz.prog.built 193 [(0, .agg #[.slice x0f0 x0f0n x0f0c, .int .i64 x0f1, .int .i64 x0f2, .int .i64 x0f3, .int .i64 x0f4])] = some #[.slice x0f0 x0f0n x0f0c, .int .i64 x0f1, .int .i64 x0f2, .int .i64 x0f3, .int .i64 x0f4, .slice none 0 0] := by kernel_rfl
theorem bld_202_0_1_2_3 {x0 : Int} {x1 : Int} {x2 : Int} {x3 : Int} : Tryz.prog.built 202 [(0, .int .i64 x0), (1, .int .i64 x1), (2, .int .i64 x2), (3, .int .i64 x3)] = some #[.int .i64 x0, .int .i64 x1, .int .i64 x2, .int .i64 x3] := by kernel_rfl
theorem bld_215_0_1 {x0 : Int} {x10 : Int} {x11 : Int} {x12 : Int} {x13 : Int} {x14 : Int} {x15 : Int} {x16 : Int} {x17 : Int} : Tryz.prog.built 215 [(0, .int .i64 x0), (1, .agg #[.int .i64 x10, .int .i64 x11, .int .i64 x12, .int .i64 x13, .int .i64 x14, .int .i64 x15, .int .i64 x16, .int .i64 x17])] = some #[.int .i64 x0, .int .i64 x10, .int .i64 x11, .int .i64 x12, .int .i64 x13, .int .i64 x14, .int .i64 x15, .int .i64 x16, .int .i64 x17] := by kernel_rfl
theorem by_3 : ((Tryz.prog.info? 3).any fun i => i.bytes == 8) = true := by kernel_rfl
theorem by_4 : ((Tryz.prog.info? 4).any fun i => i.bytes == 1) = true := by kernel_rfl
theorem by_5 : ((Tryz.prog.info? 5).any fun i => i.bytes == 1) = true := by kernel_rfl
theorem by_9 : ((Tryz.prog.info? 9).any fun i => i.bytes == 16) = true := by kernel_rfl
theorem by_22 : ((Tryz.prog.info? 22).any fun i => i.bytes == 8) = true := by kernel_rfl
theorem by_24 : ((Tryz.prog.info? 24).any fun i => i.bytes == 8) = true := by kernel_rfl
theorem by_55 : ((Tryz.prog.info? 55).any fun i => i.bytes == 64) = true := by kernel_rfl
theorem by_89 : ((Tryz.prog.info? 89).any fun i => i.bytes == 88) = true := by kernel_rfl
theorem by_130 : ((Tryz.prog.info? 130).any fun i => i.bytes == 48) = true := by kernel_rfl
theorem by_133 : ((Tryz.prog.info? 133).any fun i => i.bytes == 48) = true := by kernel_rfl
theorem by_146 : ((Tryz.prog.info? 146).any fun i => i.bytes == 24) = true := by kernel_rfl
theorem by_171 : ((Tryz.prog.info? 171).any fun i => i.bytes == 24) = true := by kernel_rfl
theorem by_175 : ((Tryz.prog.info? 175).any fun i => i.bytes == 56) = true := by kernel_rfl
theorem by_182 : ((Tryz.prog.info? 182).any fun i => i.bytes == 24) = true := by kernel_rfl
theorem by_202 : ((Tryz.prog.info? 202).any fun i => i.bytes == 32) = true := by kernel_rfl
theorem by_215 : ((Tryz.prog.info? 215).any fun i => i.bytes == 72) = true := by kernel_rfl
theorem en_5 : Enters Tryz.prog 5 := enters_of Tryz.func5 (by kernel_rfl) (by kernel_rfl)
theorem en_6 : Enters Tryz.prog 6 := enters_of Tryz.func6 (by kernel_rfl) (by kernel_rfl)
theorem en_7 : Enters Tryz.prog 7 := enters_of Tryz.func7 (by kernel_rfl) (by kernel_rfl)
theorem en_8 : Enters Tryz.prog 8 := enters_of Tryz.func8 (by kernel_rfl) (by kernel_rfl)
theorem en_9 : Enters Tryz.prog 9 := enters_of Tryz.func9 (by kernel_rfl) (by kernel_rfl)
theorem en_10 : Enters Tryz.prog 10 := enters_of Tryz.func10 (by kernel_rfl) (by kernel_rfl)
theorem en_11 : Enters Tryz.prog 11 := enters_of Tryz.func11 (by kernel_rfl) (by kernel_rfl)
theorem en_12 : Enters Tryz.prog 12 := enters_of Tryz.func12 (by kernel_rfl) (by kernel_rfl)
theorem en_13 : Enters Tryz.prog 13 := enters_of Tryz.func13 (by kernel_rfl) (by kernel_rfl)
theorem en_14 : Enters Tryz.prog 14 := enters_of Tryz.func14 (by kernel_rfl) (by kernel_rfl)
theorem en_15 : Enters Tryz.prog 15 := enters_of Tryz.func15 (by kernel_rfl) (by kernel_rfl)
theorem en_16 : Enters Tryz.prog 16 := enters_of Tryz.func16 (by kernel_rfl) (by kernel_rfl)
theorem en_17 : Enters Tryz.prog 17 := enters_of Tryz.func17 (by kernel_rfl) (by kernel_rfl)
theorem en_18 : Enters Tryz.prog 18 := enters_of Tryz.func18 (by kernel_rfl) (by kernel_rfl)
theorem en_19 : Enters Tryz.prog 19 := enters_of Tryz.func19 (by kernel_rfl) (by kernel_rfl)
theorem en_20 : Enters Tryz.prog 20 := enters_of Tryz.func20 (by kernel_rfl) (by kernel_rfl)
theorem en_21 : Enters Tryz.prog 21 := enters_of Tryz.func21 (by kernel_rfl) (by kernel_rfl)
theorem en_22 : Enters Tryz.prog 22 := enters_of Tryz.func22 (by kernel_rfl) (by kernel_rfl)
theorem en_23 : Enters Tryz.prog 23 := enters_of Tryz.func23 (by kernel_rfl) (by kernel_rfl)
theorem en_24 : Enters Tryz.prog 24 := enters_of Tryz.func24 (by kernel_rfl) (by kernel_rfl)
theorem en_25 : Enters Tryz.prog 25 := enters_of Tryz.func25 (by kernel_rfl) (by kernel_rfl)
theorem en_26 : Enters Tryz.prog 26 := enters_of Tryz.func26 (by kernel_rfl) (by kernel_rfl)
theorem en_27 : Enters Tryz.prog 27 := enters_of Tryz.func27 (by kernel_rfl) (by kernel_rfl)
theorem en_28 : Enters Tryz.prog 28 := enters_of Tryz.func28 (by kernel_rfl) (by kernel_rfl)
theorem en_29 : Enters Tryz.prog 29 := enters_of Tryz.func29 (by kernel_rfl) (by kernel_rfl)
theorem en_30 : Enters Tryz.prog 30 := enters_of Tryz.func30 (by kernel_rfl) (by kernel_rfl)
theorem en_31 : Enters Tryz.prog 31 := enters_of Tryz.func31 (by kernel_rfl) (by kernel_rfl)
theorem en_32 : Enters Tryz.prog 32 := enters_of Tryz.func32 (by kernel_rfl) (by kernel_rfl)
theorem en_33 : Enters Tryz.prog 33 := enters_of Tryz.func33 (by kernel_rfl) (by kernel_rfl)
theorem en_34 : Enters Tryz.prog 34 := enters_of Tryz.func34 (by kernel_rfl) (by kernel_rfl)
theorem en_35 : Enters Tryz.prog 35 := enters_of Tryz.func35 (by kernel_rfl) (by kernel_rfl)
theorem en_36 : Enters Tryz.prog 36 := enters_of Tryz.func36 (by kernel_rfl) (by kernel_rfl)
theorem en_37 : Enters Tryz.prog 37 := enters_of Tryz.func37 (by kernel_rfl) (by kernel_rfl)
theorem en_38 : Enters Tryz.prog 38 := enters_of Tryz.func38 (by kernel_rfl) (by kernel_rfl)
theorem en_39 : Enters Tryz.prog 39 := enters_of Tryz.func39 (by kernel_rfl) (by kernel_rfl)
theorem en_40 : Enters Tryz.prog 40 := enters_of Tryz.func40 (by kernel_rfl) (by kernel_rfl)
theorem en_41 : Enters Tryz.prog 41 := enters_of Tryz.func41 (by kernel_rfl) (by kernel_rfl)
theorem en_42 : Enters Tryz.prog 42 := enters_of Tryz.func42 (by kernel_rfl) (by kernel_rfl)
theorem en_43 : Enters Tryz.prog 43 := enters_of Tryz.func43 (by kernel_rfl) (by kernel_rfl)
theorem en_44 : Enters Tryz.prog 44 := enters_of Tryz.func44 (by kernel_rfl) (by kernel_rfl)
theorem en_45 : Enters Tryz.prog 45 := enters_of Tryz.func45 (by kernel_rfl) (by kernel_rfl)
theorem en_46 : Enters Tryz.prog 46 := enters_of Tryz.func46 (by kernel_rfl) (by kernel_rfl)
theorem en_47 : Enters Tryz.prog 47 := enters_of Tryz.func47 (by kernel_rfl) (by kernel_rfl)
theorem en_48 : Enters Tryz.prog 48 := enters_of Tryz.func48 (by kernel_rfl) (by kernel_rfl)
theorem en_49 : Enters Tryz.prog 49 := enters_of Tryz.func49 (by kernel_rfl) (by kernel_rfl)
theorem en_50 : Enters Tryz.prog 50 := enters_of Tryz.func50 (by kernel_rfl) (by kernel_rfl)
theorem en_51 : Enters Tryz.prog 51 := enters_of Tryz.func51 (by kernel_rfl) (by kernel_rfl)
theorem en_52 : Enters Tryz.prog 52 := enters_of Tryz.func52 (by kernel_rfl) (by kernel_rfl)
theorem en_53 : Enters Tryz.prog 53 := enters_of Tryz.func53 (by kernel_rfl) (by kernel_rfl)
theorem en_54 : Enters Tryz.prog 54 := enters_of Tryz.func54 (by kernel_rfl) (by kernel_rfl)
theorem en_55 : Enters Tryz.prog 55 := enters_of Tryz.func55 (by kernel_rfl) (by kernel_rfl)
theorem en_56 : Enters Tryz.prog 56 := enters_of Tryz.func56 (by kernel_rfl) (by kernel_rfl)
theorem en_57 : Enters Tryz.prog 57 := enters_of Tryz.func57 (by kernel_rfl) (by kernel_rfl)
theorem en_58 : Enters Tryz.prog 58 := enters_of Tryz.func58 (by kernel_rfl) (by kernel_rfl)
theorem en_59 : Enters Tryz.prog 59 := enters_of Tryz.func59 (by kernel_rfl) (by kernel_rfl)
theorem en_60 : Enters Tryz.prog 60 := enters_of Tryz.func60 (by kernel_rfl) (by kernel_rfl)
theorem en_61 : Enters Tryz.prog 61 := enters_of Tryz.func61 (by kernel_rfl) (by kernel_rfl)
theorem en_62 : Enters Tryz.prog 62 := enters_of Tryz.func62 (by kernel_rfl) (by kernel_rfl)
theorem en_63 : Enters Tryz.prog 63 := enters_of Tryz.func63 (by kernel_rfl) (by kernel_rfl)
theorem en_64 : Enters Tryz.prog 64 := enters_of Tryz.func64 (by kernel_rfl) (by kernel_rfl)
theorem en_65 : Enters Tryz.prog 65 := enters_of Tryz.func65 (by kernel_rfl) (by kernel_rfl)
theorem en_66 : Enters Tryz.prog 66 := enters_of Tryz.func66 (by kernel_rfl) (by kernel_rfl)
theorem en_67 : Enters Tryz.prog 67 := enters_of Tryz.func67 (by kernel_rfl) (by kernel_rfl)
theorem en_68 : Enters Tryz.prog 68 := enters_of Tryz.func68 (by kernel_rfl) (by kernel_rfl)
theorem en_69 : Enters Tryz.prog 69 := enters_of Tryz.func69 (by kernel_rfl) (by kernel_rfl)
theorem en_70 : Enters Tryz.prog 70 := enters_of Tryz.func70 (by kernel_rfl) (by kernel_rfl)
theorem en_71 : Enters Tryz.prog 71 := enters_of Tryz.func71 (by kernel_rfl) (by kernel_rfl)
theorem en_72 : Enters Tryz.prog 72 := enters_of Tryz.func72 (by kernel_rfl) (by kernel_rfl)
theorem en_73 : Enters Tryz.prog 73 := enters_of Tryz.func73 (by kernel_rfl) (by kernel_rfl)
theorem en_74 : Enters Tryz.prog 74 := enters_of Tryz.func74 (by kernel_rfl) (by kernel_rfl)
theorem en_75 : Enters Tryz.prog 75 := enters_of Tryz.func75 (by kernel_rfl) (by kernel_rfl)
theorem en_76 : Enters Tryz.prog 76 := enters_of Tryz.func76 (by kernel_rfl) (by kernel_rfl)
theorem en_77 : Enters Tryz.prog 77 := enters_of Tryz.func77 (by kernel_rfl) (by kernel_rfl)
theorem en_78 : Enters Tryz.prog 78 := enters_of Tryz.func78 (by kernel_rfl) (by kernel_rfl)
theorem en_79 : Enters Tryz.prog 79 := enters_of Tryz.func79 (by kernel_rfl) (by kernel_rfl)
theorem en_80 : Enters Tryz.prog 80 := enters_of Tryz.func80 (by kernel_rfl) (by kernel_rfl)
theorem en_81 : Enters Tryz.prog 81 := enters_of Tryz.func81 (by kernel_rfl) (by kernel_rfl)
theorem en_82 : Enters Tryz.prog 82 := enters_of Tryz.func82 (by kernel_rfl) (by kernel_rfl)
theorem en_83 : Enters Tryz.prog 83 := enters_of Tryz.func83 (by kernel_rfl) (by kernel_rfl)
theorem en_84 : Enters Tryz.prog 84 := enters_of Tryz.func84 (by kernel_rfl) (by kernel_rfl)
theorem en_85 : Enters Tryz.prog 85 := enters_of Tryz.func85 (by kernel_rfl) (by kernel_rfl)
theorem en_86 : Enters Tryz.prog 86 := enters_of Tryz.func86 (by kernel_rfl) (by kernel_rfl)
theorem en_87 : Enters Tryz.prog 87 := enters_of Tryz.func87 (by kernel_rfl) (by kernel_rfl)
theorem en_88 : Enters Tryz.prog 88 := enters_of Tryz.func88 (by kernel_rfl) (by kernel_rfl)
theorem en_89 : Enters Tryz.prog 89 := enters_of Tryz.func89 (by kernel_rfl) (by kernel_rfl)
theorem en_90 : Enters Tryz.prog 90 := enters_of Tryz.func90 (by kernel_rfl) (by kernel_rfl)
theorem en_91 : Enters Tryz.prog 91 := enters_of Tryz.func91 (by kernel_rfl) (by kernel_rfl)
theorem en_92 : Enters Tryz.prog 92 := enters_of Tryz.func92 (by kernel_rfl) (by kernel_rfl)
theorem en_93 : Enters Tryz.prog 93 := enters_of Tryz.func93 (by kernel_rfl) (by kernel_rfl)
theorem en_94 : Enters Tryz.prog 94 := enters_of Tryz.func94 (by kernel_rfl) (by kernel_rfl)
theorem en_95 : Enters Tryz.prog 95 := enters_of Tryz.func95 (by kernel_rfl) (by kernel_rfl)
theorem en_96 : Enters Tryz.prog 96 := enters_of Tryz.func96 (by kernel_rfl) (by kernel_rfl)
theorem en_97 : Enters Tryz.prog 97 := enters_of Tryz.func97 (by kernel_rfl) (by kernel_rfl)
theorem en_98 : Enters Tryz.prog 98 := enters_of Tryz.func98 (by kernel_rfl) (by kernel_rfl)
theorem en_99 : Enters Tryz.prog 99 := enters_of Tryz.func99 (by kernel_rfl) (by kernel_rfl)
theorem en_100 : Enters Tryz.prog 100 := enters_of Tryz.func100 (by kernel_rfl) (by kernel_rfl)
theorem en_101 : Enters Tryz.prog 101 := enters_of Tryz.func101 (by kernel_rfl) (by kernel_rfl)
theorem en_102 : Enters Tryz.prog 102 := enters_of Tryz.func102 (by kernel_rfl) (by kernel_rfl)
theorem en_103 : Enters Tryz.prog 103 := enters_of Tryz.func103 (by kernel_rfl) (by kernel_rfl)
theorem en_104 : Enters Tryz.prog 104 := enters_of Tryz.func104 (by kernel_rfl) (by kernel_rfl)
theorem en_105 : Enters Tryz.prog 105 := enters_of Tryz.func105 (by kernel_rfl) (by kernel_rfl)
theorem en_106 : Enters Tryz.prog 106 := enters_of Tryz.func106 (by kernel_rfl) (by kernel_rfl)
theorem en_107 : Enters Tryz.prog 107 := enters_of Tryz.func107 (by kernel_rfl) (by kernel_rfl)
theorem en_108 : Enters Tryz.prog 108 := enters_of Tryz.func108 (by kernel_rfl) (by kernel_rfl)
theorem en_109 : Enters Tryz.prog 109 := enters_of Tryz.func109 (by kernel_rfl) (by kernel_rfl)
theorem en_110 : Enters Tryz.prog 110 := enters_of Tryz.func110 (by kernel_rfl) (by kernel_rfl)
theorem en_111 : Enters Tryz.prog 111 := enters_of Tryz.func111 (by kernel_rfl) (by kernel_rfl)
theorem en_112 : Enters Tryz.prog 112 := enters_of Tryz.func112 (by kernel_rfl) (by kernel_rfl)
theorem en_113 : Enters Tryz.prog 113 := enters_of Tryz.func113 (by kernel_rfl) (by kernel_rfl)
theorem en_114 : Enters Tryz.prog 114 := enters_of Tryz.func114 (by kernel_rfl) (by kernel_rfl)
theorem en_115 : Enters Tryz.prog 115 := enters_of Tryz.func115 (by kernel_rfl) (by kernel_rfl)
theorem en_116 : Enters Tryz.prog 116 := enters_of Tryz.func116 (by kernel_rfl) (by kernel_rfl)
theorem en_117 : Enters Tryz.prog 117 := enters_of Tryz.func117 (by kernel_rfl) (by kernel_rfl)
theorem en_118 : Enters Tryz.prog 118 := enters_of Tryz.func118 (by kernel_rfl) (by kernel_rfl)
theorem en_119 : Enters Tryz.prog 119 := enters_of Tryz.func119 (by kernel_rfl) (by kernel_rfl)
theorem en_120 : Enters Tryz.prog 120 := enters_of Tryz.func120 (by kernel_rfl) (by kernel_rfl)
theorem en_121 : Enters Tryz.prog 121 := enters_of Tryz.func121 (by kernel_rfl) (by kernel_rfl)
theorem en_122 : Enters Tryz.prog 122 := enters_of Tryz.func122 (by kernel_rfl) (by kernel_rfl)
theorem en_123 : Enters Tryz.prog 123 := enters_of Tryz.func123 (by kernel_rfl) (by kernel_rfl)
theorem en_124 : Enters Tryz.prog 124 := enters_of Tryz.func124 (by kernel_rfl) (by kernel_rfl)
theorem en_125 : Enters Tryz.prog 125 := enters_of Tryz.func125 (by kernel_rfl) (by kernel_rfl)
theorem en_126 : Enters Tryz.prog 126 := enters_of Tryz.func126 (by kernel_rfl) (by kernel_rfl)
theorem en_127 : Enters Tryz.prog 127 := enters_of Tryz.func127 (by kernel_rfl) (by kernel_rfl)
theorem en_128 : Enters Tryz.prog 128 := enters_of Tryz.func128 (by kernel_rfl) (by kernel_rfl)
theorem en_129 : Enters Tryz.prog 129 := enters_of Tryz.func129 (by kernel_rfl) (by kernel_rfl)
theorem en_130 : Enters Tryz.prog 130 := enters_of Tryz.func130 (by kernel_rfl) (by kernel_rfl)
theorem en_131 : Enters Tryz.prog 131 := enters_of Tryz.func131 (by kernel_rfl) (by kernel_rfl)
theorem en_132 : Enters Tryz.prog 132 := enters_of Tryz.func132 (by kernel_rfl) (by kernel_rfl)
theorem en_133 : Enters Tryz.prog 133 := enters_of Tryz.func133 (by kernel_rfl) (by kernel_rfl)
theorem en_134 : Enters Tryz.prog 134 := enters_of Tryz.func134 (by kernel_rfl) (by kernel_rfl)
theorem en_135 : Enters Tryz.prog 135 := enters_of Tryz.func135 (by kernel_rfl) (by kernel_rfl)
theorem en_136 : Enters Tryz.prog 136 := enters_of Tryz.func136 (by kernel_rfl) (by kernel_rfl)
theorem en_137 : Enters Tryz.prog 137 := enters_of Tryz.func137 (by kernel_rfl) (by kernel_rfl)
theorem en_138 : Enters Tryz.prog 138 := enters_of Tryz.func138 (by kernel_rfl) (by kernel_rfl)
theorem en_139 : Enters Tryz.prog 139 := enters_of Tryz.func139 (by kernel_rfl) (by kernel_rfl)
theorem en_140 : Enters Tryz.prog 140 := enters_of Tryz.func140 (by kernel_rfl) (by kernel_rfl)
theorem en_141 : Enters Tryz.prog 141 := enters_of Tryz.func141 (by kernel_rfl) (by kernel_rfl)
theorem en_142 : Enters Tryz.prog 142 := enters_of Tryz.func142 (by kernel_rfl) (by kernel_rfl)
theorem en_143 : Enters Tryz.prog 143 := enters_of Tryz.func143 (by kernel_rfl) (by kernel_rfl)
theorem en_144 : Enters Tryz.prog 144 := enters_of Tryz.func144 (by kernel_rfl) (by kernel_rfl)
theorem en_145 : Enters Tryz.prog 145 := enters_of Tryz.func145 (by kernel_rfl) (by kernel_rfl)
theorem en_146 : Enters Tryz.prog 146 := enters_of Tryz.func146 (by kernel_rfl) (by kernel_rfl)
theorem en_147 : Enters Tryz.prog 147 := enters_of Tryz.func147 (by kernel_rfl) (by kernel_rfl)
theorem en_148 : Enters Tryz.prog 148 := enters_of Tryz.func148 (by kernel_rfl) (by kernel_rfl)
theorem en_149 : Enters Tryz.prog 149 := enters_of Tryz.func149 (by kernel_rfl) (by kernel_rfl)
theorem en_150 : Enters Tryz.prog 150 := enters_of Tryz.func150 (by kernel_rfl) (by kernel_rfl)
theorem en_151 : Enters Tryz.prog 151 := enters_of Tryz.func151 (by kernel_rfl) (by kernel_rfl)
theorem en_152 : Enters Tryz.prog 152 := enters_of Tryz.func152 (by kernel_rfl) (by kernel_rfl)
theorem en_153 : Enters Tryz.prog 153 := enters_of Tryz.func153 (by kernel_rfl) (by kernel_rfl)
theorem en_154 : Enters Tryz.prog 154 := enters_of Tryz.func154 (by kernel_rfl) (by kernel_rfl)
theorem en_155 : Enters Tryz.prog 155 := enters_of Tryz.func155 (by kernel_rfl) (by kernel_rfl)
theorem en_156 : Enters Tryz.prog 156 := enters_of Tryz.func156 (by kernel_rfl) (by kernel_rfl)
theorem en_157 : Enters Tryz.prog 157 := enters_of Tryz.func157 (by kernel_rfl) (by kernel_rfl)
theorem en_158 : Enters Tryz.prog 158 := enters_of Tryz.func158 (by kernel_rfl) (by kernel_rfl)
theorem en_159 : Enters Tryz.prog 159 := enters_of Tryz.func159 (by kernel_rfl) (by kernel_rfl)
theorem en_160 : Enters Tryz.prog 160 := enters_of Tryz.func160 (by kernel_rfl) (by kernel_rfl)
theorem en_161 : Enters Tryz.prog 161 := enters_of Tryz.func161 (by kernel_rfl) (by kernel_rfl)
theorem fo_41_0 : foffB Tryz.prog 41 0 0 = true := by kernel_rfl
theorem fo_57_0 : foffB Tryz.prog 57 0 0 = true := by kernel_rfl
theorem fo_57_1 : foffB Tryz.prog 57 1 1 = true := by kernel_rfl
theorem fo_57_2 : foffB Tryz.prog 57 2 2 = true := by kernel_rfl
theorem fo_57_3 : foffB Tryz.prog 57 3 3 = true := by kernel_rfl
theorem fo_69_0 : foffB Tryz.prog 69 0 0 = true := by kernel_rfl
theorem fo_69_1 : foffB Tryz.prog 69 1 1 = true := by kernel_rfl
theorem fo_69_2 : foffB Tryz.prog 69 2 2 = true := by kernel_rfl
theorem fo_69_3 : foffB Tryz.prog 69 3 3 = true := by kernel_rfl
theorem fo_69_4 : foffB Tryz.prog 69 4 4 = true := by kernel_rfl
theorem fo_69_5 : foffB Tryz.prog 69 5 5 = true := by kernel_rfl
theorem fo_76_0 : foffB Tryz.prog 76 0 0 = true := by kernel_rfl
theorem fo_76_1 : foffB Tryz.prog 76 1 1 = true := by kernel_rfl
theorem fo_76_2 : foffB Tryz.prog 76 2 2 = true := by kernel_rfl
theorem fo_76_3 : foffB Tryz.prog 76 3 3 = true := by kernel_rfl
theorem fo_76_4 : foffB Tryz.prog 76 4 4 = true := by kernel_rfl
theorem fo_76_5 : foffB Tryz.prog 76 5 5 = true := by kernel_rfl
theorem fo_84_0 : foffB Tryz.prog 84 0 0 = true := by kernel_rfl
theorem fo_84_1 : foffB Tryz.prog 84 1 1 = true := by kernel_rfl
theorem fo_84_2 : foffB Tryz.prog 84 2 2 = true := by kernel_rfl
theorem fo_89_0 : foffB Tryz.prog 89 0 0 = true := by kernel_rfl
theorem fo_89_1 : foffB Tryz.prog 89 1 1 = true := by kernel_rfl
theorem fo_89_2 : foffB Tryz.prog 89 2 2 = true := by kernel_rfl
theorem fo_89_3 : foffB Tryz.prog 89 3 3 = true := by kernel_rfl
theorem fo_89_4 : foffB Tryz.prog 89 4 4 = true := by kernel_rfl
theorem fo_89_5 : foffB Tryz.prog 89 5 5 = true := by kernel_rfl
theorem fo_89_6 : foffB Tryz.prog 89 6 6 = true := by kernel_rfl
theorem fo_89_7 : foffB Tryz.prog 89 7 7 = true := by kernel_rfl
theorem fo_93_0 : foffB Tryz.prog 93 0 0 = true := by kernel_rfl
theorem fo_93_1 : foffB Tryz.prog 93 1 1 = true := by kernel_rfl
theorem fo_93_2 : foffB Tryz.prog 93 2 2 = true := by kernel_rfl
theorem fo_93_3 : foffB Tryz.prog 93 3 3 = true := by kernel_rfl
theorem fo_93_4 : foffB Tryz.prog 93 4 4 = true := by kernel_rfl
theorem fo_96_0 : foffB Tryz.prog 96 0 0 = true := by kernel_rfl
theorem fo_96_1 : foffB Tryz.prog 96 1 1 = true := by kernel_rfl
theorem fo_96_2 : foffB Tryz.prog 96 2 2 = true := by kernel_rfl
theorem fo_96_3 : foffB Tryz.prog 96 3 266 = true := by kernel_rfl
theorem fo_96_4 : foffB Tryz.prog 96 4 290 = true := by kernel_rfl
theorem fo_96_5 : foffB Tryz.prog 96 5 291 = true := by kernel_rfl
theorem fo_96_6 : foffB Tryz.prog 96 6 321 = true := by kernel_rfl
theorem fo_96_7 : foffB Tryz.prog 96 7 322 = true := by kernel_rfl
theorem fo_96_8 : foffB Tryz.prog 96 8 323 = true := by kernel_rfl
theorem fo_96_9 : foffB Tryz.prog 96 9 324 = true := by kernel_rfl
theorem fo_101_0 : foffB Tryz.prog 101 0 0 = true := by kernel_rfl
theorem fo_101_1 : foffB Tryz.prog 101 1 1 = true := by kernel_rfl
theorem fo_101_2 : foffB Tryz.prog 101 2 2 = true := by kernel_rfl
theorem fo_101_3 : foffB Tryz.prog 101 3 3 = true := by kernel_rfl
theorem fo_101_4 : foffB Tryz.prog 101 4 4 = true := by kernel_rfl
theorem fo_101_5 : foffB Tryz.prog 101 5 5 = true := by kernel_rfl
theorem fo_101_6 : foffB Tryz.prog 101 6 6 = true := by kernel_rfl
theorem fo_101_7 : foffB Tryz.prog 101 7 7 = true := by kernel_rfl
theorem fo_101_8 : foffB Tryz.prog 101 8 8 = true := by kernel_rfl
theorem fo_104_0 : foffB Tryz.prog 104 0 0 = true := by kernel_rfl
theorem fo_104_1 : foffB Tryz.prog 104 1 64 = true := by kernel_rfl
theorem fo_104_2 : foffB Tryz.prog 104 2 128 = true := by kernel_rfl
theorem fo_104_3 : foffB Tryz.prog 104 3 129 = true := by kernel_rfl
theorem fo_108_0 : foffB Tryz.prog 108 0 0 = true := by kernel_rfl
theorem fo_108_1 : foffB Tryz.prog 108 1 260 = true := by kernel_rfl
theorem fo_108_2 : foffB Tryz.prog 108 2 261 = true := by kernel_rfl
theorem fo_108_3 : foffB Tryz.prog 108 3 262 = true := by kernel_rfl
theorem fo_108_4 : foffB Tryz.prog 108 4 263 = true := by kernel_rfl
theorem fo_108_5 : foffB Tryz.prog 108 5 264 = true := by kernel_rfl
theorem fo_108_6 : foffB Tryz.prog 108 6 265 = true := by kernel_rfl
theorem fo_112_0 : foffB Tryz.prog 112 0 0 = true := by kernel_rfl
theorem fo_112_1 : foffB Tryz.prog 112 1 1 = true := by kernel_rfl
theorem fo_112_2 : foffB Tryz.prog 112 2 2 = true := by kernel_rfl
theorem fo_112_3 : foffB Tryz.prog 112 3 3 = true := by kernel_rfl
theorem fo_112_4 : foffB Tryz.prog 112 4 4 = true := by kernel_rfl
theorem fo_112_5 : foffB Tryz.prog 112 5 10 = true := by kernel_rfl
theorem fo_112_6 : foffB Tryz.prog 112 6 11 = true := by kernel_rfl
theorem fo_112_7 : foffB Tryz.prog 112 7 12 = true := by kernel_rfl
theorem fo_112_8 : foffB Tryz.prog 112 8 13 = true := by kernel_rfl
theorem fo_112_9 : foffB Tryz.prog 112 9 14 = true := by kernel_rfl
theorem fo_112_10 : foffB Tryz.prog 112 10 15 = true := by kernel_rfl
theorem fo_114_0 : foffB Tryz.prog 114 0 0 = true := by kernel_rfl
theorem fo_114_1 : foffB Tryz.prog 114 1 1 = true := by kernel_rfl
theorem fo_114_2 : foffB Tryz.prog 114 2 2 = true := by kernel_rfl
theorem fo_114_3 : foffB Tryz.prog 114 3 3 = true := by kernel_rfl
theorem fo_114_4 : foffB Tryz.prog 114 4 4 = true := by kernel_rfl
theorem fo_117_0 : foffB Tryz.prog 117 0 0 = true := by kernel_rfl
theorem fo_117_1 : foffB Tryz.prog 117 1 1 = true := by kernel_rfl
theorem fo_117_2 : foffB Tryz.prog 117 2 2 = true := by kernel_rfl
theorem fo_117_3 : foffB Tryz.prog 117 3 3 = true := by kernel_rfl
theorem fo_120_0 : foffB Tryz.prog 120 0 0 = true := by kernel_rfl
theorem fo_120_1 : foffB Tryz.prog 120 1 1 = true := by kernel_rfl
theorem fo_120_2 : foffB Tryz.prog 120 2 2 = true := by kernel_rfl
theorem fo_120_3 : foffB Tryz.prog 120 3 3 = true := by kernel_rfl
theorem fo_120_4 : foffB Tryz.prog 120 4 4 = true := by kernel_rfl
theorem fo_130_0 : foffB Tryz.prog 130 0 0 = true := by kernel_rfl
theorem fo_130_1 : foffB Tryz.prog 130 1 1 = true := by kernel_rfl
theorem fo_133_0 : foffB Tryz.prog 133 0 0 = true := by kernel_rfl
theorem fo_133_1 : foffB Tryz.prog 133 1 1 = true := by kernel_rfl
theorem fo_135_0 : foffB Tryz.prog 135 0 0 = true := by kernel_rfl
theorem fo_137_0 : foffB Tryz.prog 137 0 0 = true := by kernel_rfl
theorem fo_137_1 : foffB Tryz.prog 137 1 1 = true := by kernel_rfl
theorem fo_146_0 : foffB Tryz.prog 146 0 0 = true := by kernel_rfl
theorem fo_146_1 : foffB Tryz.prog 146 1 1 = true := by kernel_rfl
theorem fo_146_2 : foffB Tryz.prog 146 2 2 = true := by kernel_rfl
theorem fo_151_0 : foffB Tryz.prog 151 0 0 = true := by kernel_rfl
theorem fo_151_1 : foffB Tryz.prog 151 1 1 = true := by kernel_rfl
theorem fo_151_2 : foffB Tryz.prog 151 2 2 = true := by kernel_rfl
theorem fo_151_3 : foffB Tryz.prog 151 3 3 = true := by kernel_rfl
theorem fo_151_4 : foffB Tryz.prog 151 4 4 = true := by kernel_rfl
theorem fo_168_0 : foffB Tryz.prog 168 0 0 = true := by kernel_rfl
theorem fo_168_1 : foffB Tryz.prog 168 1 1 = true := by kernel_rfl
theorem fo_168_2 : foffB Tryz.prog 168 2 2 = true := by kernel_rfl
theorem fo_171_0 : foffB Tryz.prog 171 0 0 = true := by kernel_rfl
theorem fo_171_1 : foffB Tryz.prog 171 1 1 = true := by kernel_rfl
theorem fo_171_2 : foffB Tryz.prog 171 2 2 = true := by kernel_rfl
theorem fo_175_0 : foffB Tryz.prog 175 0 0 = true := by kernel_rfl
theorem fo_175_1 : foffB Tryz.prog 175 1 1 = true := by kernel_rfl
theorem fo_175_2 : foffB Tryz.prog 175 2 2 = true := by kernel_rfl
theorem fo_175_3 : foffB Tryz.prog 175 3 3 = true := by kernel_rfl
theorem fo_182_0 : foffB Tryz.prog 182 0 0 = true := by kernel_rfl
theorem fo_182_1 : foffB Tryz.prog 182 1 1 = true := by kernel_rfl
theorem fo_182_2 : foffB Tryz.prog 182 2 2 = true := by kernel_rfl
theorem fo_187_0 : foffB Tryz.prog 187 0 0 = true := by kernel_rfl
theorem fo_187_1 : foffB Tryz.prog 187 1 1 = true := by kernel_rfl
theorem fo_187_2 : foffB Tryz.prog 187 2 2 = true := by kernel_rfl
theorem fo_187_3 : foffB Tryz.prog 187 3 3 = true := by kernel_rfl
theorem fo_187_4 : foffB Tryz.prog 187 4 4 = true := by kernel_rfl
theorem fo_187_5 : foffB Tryz.prog 187 5 5 = true := by kernel_rfl
theorem fo_193_0 : foffB Tryz.prog 193 0 0 = true := by kernel_rfl
theorem fo_193_1 : foffB Tryz.prog 193 1 5 = true := by kernel_rfl
theorem fo_202_0 : foffB Tryz.prog 202 0 0 = true := by kernel_rfl
theorem fo_202_1 : foffB Tryz.prog 202 1 1 = true := by kernel_rfl
theorem fo_202_2 : foffB Tryz.prog 202 2 2 = true := by kernel_rfl
theorem fo_202_3 : foffB Tryz.prog 202 3 3 = true := by kernel_rfl
theorem fo_215_0 : foffB Tryz.prog 215 0 0 = true := by kernel_rfl
theorem fo_215_1 : foffB Tryz.prog 215 1 1 = true := by kernel_rfl
theorem in_3 : intB Tryz.prog 3 .i64 = true := by kernel_rfl
theorem in_5 : intB Tryz.prog 5 .u8 = true := by kernel_rfl
theorem in_53 : intB Tryz.prog 53 .i64 = true := by kernel_rfl
theorem in_85 : intB Tryz.prog 85 .u64 = true := by kernel_rfl
theorem in_209 : intB Tryz.prog 209 .u64 = true := by kernel_rfl
theorem pt_50 : Tryz.prog.underlying 50 = some (.pointer (Tryz.prog.pointee 50)) := by kernel_rfl
theorem sc_3 : scalB Tryz.prog 3 = true := by kernel_rfl
theorem sc_4 : scalB Tryz.prog 4 = true := by kernel_rfl
theorem sc_5 : scalB Tryz.prog 5 = true := by kernel_rfl
theorem sc_9 : scalB Tryz.prog 9 = true := by kernel_rfl
theorem sc_22 : scalB Tryz.prog 22 = true := by kernel_rfl
theorem sc_24 : scalB Tryz.prog 24 = true := by kernel_rfl
theorem sc_27 : scalB Tryz.prog 27 = true := by kernel_rfl
theorem sc_31 : scalB Tryz.prog 31 = true := by kernel_rfl
theorem sc_35 : scalB Tryz.prog 35 = true := by kernel_rfl
theorem sc_38 : scalB Tryz.prog 38 = true := by kernel_rfl
theorem sc_42 : scalB Tryz.prog 42 = true := by kernel_rfl
theorem sc_44 : scalB Tryz.prog 44 = true := by kernel_rfl
theorem sc_46 : scalB Tryz.prog 46 = true := by kernel_rfl
theorem sc_48 : scalB Tryz.prog 48 = true := by kernel_rfl
theorem sc_50 : scalB Tryz.prog 50 = true := by kernel_rfl
theorem sc_53 : scalB Tryz.prog 53 = true := by kernel_rfl
theorem sc_71 : scalB Tryz.prog 71 = true := by kernel_rfl
theorem sc_72 : scalB Tryz.prog 72 = true := by kernel_rfl
theorem sc_73 : scalB Tryz.prog 73 = true := by kernel_rfl
theorem sc_74 : scalB Tryz.prog 74 = true := by kernel_rfl
theorem sc_79 : scalB Tryz.prog 79 = true := by kernel_rfl
theorem sc_81 : scalB Tryz.prog 81 = true := by kernel_rfl
theorem sc_85 : scalB Tryz.prog 85 = true := by kernel_rfl
theorem sc_97 : scalB Tryz.prog 97 = true := by kernel_rfl
theorem sc_98 : scalB Tryz.prog 98 = true := by kernel_rfl
theorem sc_99 : scalB Tryz.prog 99 = true := by kernel_rfl
theorem sc_106 : scalB Tryz.prog 106 = true := by kernel_rfl
theorem sc_109 : scalB Tryz.prog 109 = true := by kernel_rfl
theorem sc_118 : scalB Tryz.prog 118 = true := by kernel_rfl
theorem sc_126 : scalB Tryz.prog 126 = true := by kernel_rfl
theorem sc_166 : scalB Tryz.prog 166 = true := by kernel_rfl
theorem sc_209 : scalB Tryz.prog 209 = true := by kernel_rfl
theorem sc_212 : scalB Tryz.prog 212 = true := by kernel_rfl
theorem sc_235 : scalB Tryz.prog 235 = true := by kernel_rfl
theorem se_27 : selB Tryz.prog 27 55 8 = true := by kernel_rfl
theorem se_31 : selB Tryz.prog 31 9 1 = true := by kernel_rfl
theorem se_35 : selB Tryz.prog 35 69 6 = true := by kernel_rfl
theorem se_71 : selB Tryz.prog 71 24 1 = true := by kernel_rfl
theorem se_72 : selB Tryz.prog 72 22 1 = true := by kernel_rfl
theorem se_73 : selB Tryz.prog 73 130 2 = true := by kernel_rfl
theorem se_74 : selB Tryz.prog 74 133 2 = true := by kernel_rfl
theorem se_97 : selB Tryz.prog 97 3 1 = true := by kernel_rfl
theorem se_98 : selB Tryz.prog 98 89 11 = true := by kernel_rfl
theorem se_99 : selB Tryz.prog 99 202 4 = true := by kernel_rfl
theorem se_106 : selB Tryz.prog 106 182 3 = true := by kernel_rfl
theorem se_109 : selB Tryz.prog 109 175 7 = true := by kernel_rfl
theorem se_118 : selB Tryz.prog 118 146 3 = true := by kernel_rfl
theorem se_126 : selB Tryz.prog 126 5 1 = true := by kernel_rfl
theorem se_166 : selB Tryz.prog 166 171 3 = true := by kernel_rfl
theorem se_212 : selB Tryz.prog 212 215 9 = true := by kernel_rfl
theorem se_235 : selB Tryz.prog 235 4 1 = true := by kernel_rfl
theorem st_9 : strB Tryz.prog 9 = true := by kernel_rfl
theorem sz_3 : sizeB Tryz.prog 3 1 = true := by kernel_rfl
theorem sz_4 : sizeB Tryz.prog 4 1 = true := by kernel_rfl
theorem sz_5 : sizeB Tryz.prog 5 1 = true := by kernel_rfl
theorem sz_9 : sizeB Tryz.prog 9 1 = true := by kernel_rfl
theorem sz_22 : sizeB Tryz.prog 22 1 = true := by kernel_rfl
theorem sz_24 : sizeB Tryz.prog 24 1 = true := by kernel_rfl
theorem sz_27 : sizeB Tryz.prog 27 1 = true := by kernel_rfl
theorem sz_31 : sizeB Tryz.prog 31 1 = true := by kernel_rfl
theorem sz_35 : sizeB Tryz.prog 35 1 = true := by kernel_rfl
theorem sz_38 : sizeB Tryz.prog 38 1 = true := by kernel_rfl
theorem sz_41 : sizeB Tryz.prog 41 1 = true := by kernel_rfl
theorem sz_42 : sizeB Tryz.prog 42 1 = true := by kernel_rfl
theorem sz_44 : sizeB Tryz.prog 44 1 = true := by kernel_rfl
theorem sz_46 : sizeB Tryz.prog 46 1 = true := by kernel_rfl
theorem sz_48 : sizeB Tryz.prog 48 1 = true := by kernel_rfl
theorem sz_50 : sizeB Tryz.prog 50 1 = true := by kernel_rfl
theorem sz_53 : sizeB Tryz.prog 53 1 = true := by kernel_rfl
theorem sz_55 : sizeB Tryz.prog 55 8 = true := by kernel_rfl
theorem sz_57 : sizeB Tryz.prog 57 11 = true := by kernel_rfl
theorem sz_69 : sizeB Tryz.prog 69 6 = true := by kernel_rfl
theorem sz_71 : sizeB Tryz.prog 71 1 = true := by kernel_rfl
theorem sz_72 : sizeB Tryz.prog 72 1 = true := by kernel_rfl
theorem sz_73 : sizeB Tryz.prog 73 1 = true := by kernel_rfl
theorem sz_74 : sizeB Tryz.prog 74 1 = true := by kernel_rfl
theorem sz_76 : sizeB Tryz.prog 76 6 = true := by kernel_rfl
theorem sz_79 : sizeB Tryz.prog 79 1 = true := by kernel_rfl
theorem sz_81 : sizeB Tryz.prog 81 1 = true := by kernel_rfl
theorem sz_84 : sizeB Tryz.prog 84 4 = true := by kernel_rfl
theorem sz_85 : sizeB Tryz.prog 85 1 = true := by kernel_rfl
theorem sz_87 : sizeB Tryz.prog 87 4 = true := by kernel_rfl
theorem sz_89 : sizeB Tryz.prog 89 11 = true := by kernel_rfl
theorem sz_90 : sizeB Tryz.prog 90 264 = true := by kernel_rfl
theorem sz_91 : sizeB Tryz.prog 91 24 = true := by kernel_rfl
theorem sz_93 : sizeB Tryz.prog 93 5 = true := by kernel_rfl
theorem sz_94 : sizeB Tryz.prog 94 30 = true := by kernel_rfl
theorem sz_96 : sizeB Tryz.prog 96 325 = true := by kernel_rfl
theorem sz_97 : sizeB Tryz.prog 97 1 = true := by kernel_rfl
theorem sz_98 : sizeB Tryz.prog 98 1 = true := by kernel_rfl
theorem sz_99 : sizeB Tryz.prog 99 1 = true := by kernel_rfl
theorem sz_101 : sizeB Tryz.prog 101 9 = true := by kernel_rfl
theorem sz_102 : sizeB Tryz.prog 102 64 = true := by kernel_rfl
theorem sz_105 : sizeB Tryz.prog 105 260 = true := by kernel_rfl
theorem sz_106 : sizeB Tryz.prog 106 1 = true := by kernel_rfl
theorem sz_108 : sizeB Tryz.prog 108 266 = true := by kernel_rfl
theorem sz_109 : sizeB Tryz.prog 109 1 = true := by kernel_rfl
theorem sz_110 : sizeB Tryz.prog 110 6 = true := by kernel_rfl
theorem sz_112 : sizeB Tryz.prog 112 16 = true := by kernel_rfl
theorem sz_114 : sizeB Tryz.prog 114 5 = true := by kernel_rfl
theorem sz_115 : sizeB Tryz.prog 115 10 = true := by kernel_rfl
theorem sz_117 : sizeB Tryz.prog 117 13 = true := by kernel_rfl
theorem sz_118 : sizeB Tryz.prog 118 1 = true := by kernel_rfl
theorem sz_120 : sizeB Tryz.prog 120 5 = true := by kernel_rfl
theorem sz_126 : sizeB Tryz.prog 126 1 = true := by kernel_rfl
theorem sz_130 : sizeB Tryz.prog 130 2 = true := by kernel_rfl
theorem sz_133 : sizeB Tryz.prog 133 2 = true := by kernel_rfl
theorem sz_135 : sizeB Tryz.prog 135 1 = true := by kernel_rfl
theorem sz_137 : sizeB Tryz.prog 137 2 = true := by kernel_rfl
theorem sz_146 : sizeB Tryz.prog 146 3 = true := by kernel_rfl
theorem sz_151 : sizeB Tryz.prog 151 5 = true := by kernel_rfl
theorem sz_166 : sizeB Tryz.prog 166 1 = true := by kernel_rfl
theorem sz_168 : sizeB Tryz.prog 168 3 = true := by kernel_rfl
theorem sz_171 : sizeB Tryz.prog 171 3 = true := by kernel_rfl
theorem sz_175 : sizeB Tryz.prog 175 7 = true := by kernel_rfl
theorem sz_182 : sizeB Tryz.prog 182 3 = true := by kernel_rfl
theorem sz_187 : sizeB Tryz.prog 187 6 = true := by kernel_rfl
theorem sz_193 : sizeB Tryz.prog 193 6 = true := by kernel_rfl
theorem sz_202 : sizeB Tryz.prog 202 4 = true := by kernel_rfl
theorem sz_209 : sizeB Tryz.prog 209 1 = true := by kernel_rfl
theorem sz_212 : sizeB Tryz.prog 212 1 = true := by kernel_rfl
theorem sz_215 : sizeB Tryz.prog 215 9 = true := by kernel_rfl
theorem sz_231 : sizeB Tryz.prog 231 3 = true := by kernel_rfl
theorem sz_235 : sizeB Tryz.prog 235 1 = true := by kernel_rfl
theorem ze_3 : zeroB Tryz.prog 3 [.int .i64 0] := zeroB_of (by kernel_rfl)
theorem ze_4 : zeroB Tryz.prog 4 [.bool false] := zeroB_of (by kernel_rfl)
theorem ze_5 : zeroB Tryz.prog 5 [.int .u8 0] := zeroB_of (by kernel_rfl)
theorem ze_9 : zeroB Tryz.prog 9 [S []] := zeroB_of (by kernel_rfl)
theorem ze_22 : zeroB Tryz.prog 22 [.pointer none] := zeroB_of (by kernel_rfl)
theorem ze_24 : zeroB Tryz.prog 24 [.pointer none] := zeroB_of (by kernel_rfl)
theorem ze_55 : zeroB Tryz.prog 55 [.int .i64 0, .int .i64 0, .int .i64 0, .int .i64 0, .int .i64 0, .int .i64 0, .int .i64 0, .int .i64 0] := zeroB_of (by kernel_rfl)
theorem ze_57 : zeroB Tryz.prog 57 [.int .i64 0, .int .i64 0, .bool false, .int .i64 0, .int .i64 0, .int .i64 0, .int .i64 0, .int .i64 0, .int .i64 0, .int .i64 0, .int .i64 0] := zeroB_of (by kernel_rfl)
theorem ze_87 : zeroB Tryz.prog 87 [.int .u64 0, .int .u64 0, .int .u64 0, .int .u64 0] := zeroB_of (by kernel_rfl)
theorem ze_89 : zeroB Tryz.prog 89 [.int .i64 0, .int .i64 0, .int .i64 0, .int .i64 0, .int .i64 0, .int .i64 0, .bool false, .int .u64 0, .int .u64 0, .int .u64 0, .int .u64 0] := zeroB_of (by kernel_rfl)
theorem ze_114 : zeroB Tryz.prog 114 [.bool false, S [], .slice none 0 0, .int .i64 0, .int .i64 0] := zeroB_of (by kernel_rfl)
theorem ze_130 : zeroB Tryz.prog 130 [.slice none 0 0, .slice none 0 0] := zeroB_of (by kernel_rfl)
theorem ze_133 : zeroB Tryz.prog 133 [.slice none 0 0, .slice none 0 0] := zeroB_of (by kernel_rfl)
theorem ze_146 : zeroB Tryz.prog 146 [.int .i64 0, .int .i64 0, .int .i64 0] := zeroB_of (by kernel_rfl)
theorem ze_151 : zeroB Tryz.prog 151 [.slice none 0 0, .int .i64 0, .int .i64 0, .int .i64 0, .int .i64 0] := zeroB_of (by kernel_rfl)
theorem ze_171 : zeroB Tryz.prog 171 [.int .i64 0, .int .i64 0, .int .i64 0] := zeroB_of (by kernel_rfl)
theorem ze_175 : zeroB Tryz.prog 175 [.int .i64 0, .int .i64 0, .int .i64 0, .int .u64 0, .int .u64 0, .int .u64 0, .int .u64 0] := zeroB_of (by kernel_rfl)
theorem ze_182 : zeroB Tryz.prog 182 [.int .i64 0, .int .i64 0, .int .i64 0] := zeroB_of (by kernel_rfl)
theorem ze_202 : zeroB Tryz.prog 202 [.int .i64 0, .int .i64 0, .int .i64 0, .int .i64 0] := zeroB_of (by kernel_rfl)
theorem ze_215 : zeroB Tryz.prog 215 [.int .i64 0, .int .i64 0, .int .i64 0, .int .i64 0, .int .i64 0, .int .i64 0, .int .i64 0, .int .i64 0, .int .i64 0] := zeroB_of (by kernel_rfl)
theorem ze_231 : zeroB Tryz.prog 231 [.int .i64 0, .int .i64 0, .int .i64 0] := zeroB_of (by kernel_rfl)
theorem zx_3 : ∃ z, zeroB Tryz.prog 3 z ∧ z.length = 1 := ⟨_, ze_3, rfl⟩
theorem zx_4 : ∃ z, zeroB Tryz.prog 4 z ∧ z.length = 1 := ⟨_, ze_4, rfl⟩
theorem zx_5 : ∃ z, zeroB Tryz.prog 5 z ∧ z.length = 1 := ⟨_, ze_5, rfl⟩
theorem zx_9 : ∃ z, zeroB Tryz.prog 9 z ∧ z.length = 1 := ⟨_, ze_9, rfl⟩
theorem zx_22 : ∃ z, zeroB Tryz.prog 22 z ∧ z.length = 1 := ⟨_, ze_22, rfl⟩
theorem zx_24 : ∃ z, zeroB Tryz.prog 24 z ∧ z.length = 1 := ⟨_, ze_24, rfl⟩
theorem zx_55 : ∃ z, zeroB Tryz.prog 55 z ∧ z.length = 8 := ⟨_, ze_55, rfl⟩
theorem zx_89 : ∃ z, zeroB Tryz.prog 89 z ∧ z.length = 11 := ⟨_, ze_89, rfl⟩
theorem zx_130 : ∃ z, zeroB Tryz.prog 130 z ∧ z.length = 2 := ⟨_, ze_130, rfl⟩
theorem zx_133 : ∃ z, zeroB Tryz.prog 133 z ∧ z.length = 2 := ⟨_, ze_133, rfl⟩
theorem zx_146 : ∃ z, zeroB Tryz.prog 146 z ∧ z.length = 3 := ⟨_, ze_146, rfl⟩
theorem zx_171 : ∃ z, zeroB Tryz.prog 171 z ∧ z.length = 3 := ⟨_, ze_171, rfl⟩
theorem zx_175 : ∃ z, zeroB Tryz.prog 175 z ∧ z.length = 7 := ⟨_, ze_175, rfl⟩
theorem zx_182 : ∃ z, zeroB Tryz.prog 182 z ∧ z.length = 3 := ⟨_, ze_182, rfl⟩
theorem zx_202 : ∃ z, zeroB Tryz.prog 202 z ∧ z.length = 4 := ⟨_, ze_202, rfl⟩
theorem zx_215 : ∃ z, zeroB Tryz.prog 215 z ∧ z.length = 9 := ⟨_, ze_215, rfl⟩
theorem mixed : Tryz.prog.follows .mixedOrders = true := by kernel_rfl
end Go.Proofs.Qxb6500567aGreat
