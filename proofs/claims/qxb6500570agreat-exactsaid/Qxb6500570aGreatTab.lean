import Derived.Test.Qxb6500570aGreatRows
import Derived.Test.Qxb6500570aGreatFo
namespace Go.Proofs.Qxb6500570aGreat
set_option maxRecDepth 100000

theorem ag_53 : aggB Tryz.prog 53 3 = true := by kernel_rfl
theorem ag_60 : aggB Tryz.prog 60 8 = true := by kernel_rfl
theorem ag_70 : aggB Tryz.prog 70 6 = true := by kernel_rfl
theorem ag_75 : aggB Tryz.prog 75 3 = true := by kernel_rfl
theorem ag_83 : aggB Tryz.prog 83 17 = true := by kernel_rfl
theorem ag_89 : aggB Tryz.prog 89 9 = true := by kernel_rfl
theorem ag_91 : aggB Tryz.prog 91 6 = true := by kernel_rfl
theorem ag_93 : aggB Tryz.prog 93 4 = true := by kernel_rfl
theorem ag_95 : aggB Tryz.prog 95 3 = true := by kernel_rfl
theorem ag_101 : aggB Tryz.prog 101 3 = true := by kernel_rfl
theorem ag_104 : aggB Tryz.prog 104 3 = true := by kernel_rfl
theorem ag_110 : aggB Tryz.prog 110 4 = true := by kernel_rfl
theorem ag_113 : aggB Tryz.prog 113 4 = true := by kernel_rfl
theorem ag_125 : aggB Tryz.prog 125 3 = true := by kernel_rfl
theorem ag_129 : aggB Tryz.prog 129 4 = true := by kernel_rfl
theorem ag_141 : aggB Tryz.prog 141 4 = true := by kernel_rfl
theorem ag_143 : aggB Tryz.prog 143 13 = true := by kernel_rfl
theorem ag_155 : aggB Tryz.prog 155 3 = true := by kernel_rfl
theorem ag_168 : aggB Tryz.prog 168 5 = true := by kernel_rfl
theorem ag_185 : aggB Tryz.prog 185 3 = true := by kernel_rfl
theorem ag_189 : aggB Tryz.prog 189 9 = true := by kernel_rfl
theorem ag_197 : aggB Tryz.prog 197 5 = true := by kernel_rfl
theorem ag_201 : aggB Tryz.prog 201 2 = true := by kernel_rfl
theorem ag_213 : aggB Tryz.prog 213 6 = true := by kernel_rfl
theorem ag_221 : aggB Tryz.prog 221 24 = true := by kernel_rfl
theorem ag_228 : aggB Tryz.prog 228 5 = true := by kernel_rfl
theorem ag_232 : aggB Tryz.prog 232 9 = true := by kernel_rfl
theorem ar_221 : arrB Tryz.prog 221 24 5 1 = true := by kernel_rfl
theorem bb_3 : ((Tryz.prog.info? 3).any fun i => Nat.ble i.bytes 1000) = true := by kernel_rfl
theorem bb_5 : ((Tryz.prog.info? 5).any fun i => Nat.ble i.bytes 1000) = true := by kernel_rfl
theorem bb_9 : ((Tryz.prog.info? 9).any fun i => Nat.ble i.bytes 1000) = true := by kernel_rfl
theorem bb_22 : ((Tryz.prog.info? 22).any fun i => Nat.ble i.bytes 1000) = true := by kernel_rfl
theorem bb_24 : ((Tryz.prog.info? 24).any fun i => Nat.ble i.bytes 1000) = true := by kernel_rfl
theorem bb_56 : ((Tryz.prog.info? 56).any fun i => Nat.ble i.bytes 1000) = true := by kernel_rfl
theorem bb_85 : ((Tryz.prog.info? 85).any fun i => Nat.ble i.bytes 1000) = true := by kernel_rfl
theorem bb_104 : ((Tryz.prog.info? 104).any fun i => Nat.ble i.bytes 1000) = true := by kernel_rfl
theorem bb_143 : ((Tryz.prog.info? 143).any fun i => Nat.ble i.bytes 1000) = true := by kernel_rfl
theorem bb_189 : ((Tryz.prog.info? 189).any fun i => Nat.ble i.bytes 1000) = true := by kernel_rfl
theorem bb_197 : ((Tryz.prog.info? 197).any fun i => Nat.ble i.bytes 1000) = true := by kernel_rfl
theorem bb_201 : ((Tryz.prog.info? 201).any fun i => Nat.ble i.bytes 1000) = true := by kernel_rfl
theorem bb_213 : ((Tryz.prog.info? 213).any fun i => Nat.ble i.bytes 1000) = true := by kernel_rfl
theorem bb_228 : ((Tryz.prog.info? 228).any fun i => Nat.ble i.bytes 1000) = true := by kernel_rfl
theorem bld_53_0 {x0 : Option Addr} : Tryz.prog.built 53 [(0, .pointer x0)] = some #[.pointer x0, .slice none 0 0, .slice none 0 0] := by kernel_rfl
theorem bld_60_0 {x0 : Option Addr} : Tryz.prog.built 60 [(0, .pointer x0)] = some #[.pointer x0, .slice none 0 0, .slice none 0 0, .int .i64 0, .int .i64 0, .int .i64 0, .slice none 0 0, .slice none 0 0] := by kernel_rfl
theorem bld_75  : Tryz.prog.built 75 [] = some #[.slice none 0 0, .slice none 0 0, .slice none 0 0] := by kernel_rfl
theorem bld_83_0_4_6_8_14_15 {x0 : Option Addr} {x0n x0c : Nat} {x4 : Option Addr} {x4n x4c : Nat} {x6 : Option Addr} {x6n x6c : Nat} {x8 : Option Addr} {x8n x8c : Nat} {x14 : Option Addr} {x14n x14c : Nat} {x15 : Option Addr} {x15n x15c : Nat} : Tryz.prog.built 83 [(0, .slice x0 x0n x0c), (4, .slice x4 x4n x4c), (6, .slice x6 x6n x6c), (8, .slice x8 x8n x8c), (14, .slice x14 x14n x14c), (15, .slice x15 x15n x15c)] = some #[.slice x0 x0n x0c, .int .i64 0, .int .i64 0, .int .i64 0, .slice x4 x4n x4c, .int .i64 0, .slice x6 x6n x6c, .int .i64 0, .slice x8 x8n x8c, .int .i64 0, .bool false, .bool false, .int .i64 0, .int .i64 0, .slice x14 x14n x14c, .slice x15 x15n x15c, .int .i64 0] := by kernel_rfl
theorem bld_89_0 {x0 : Option Addr} : Tryz.prog.built 89 [(0, .pointer x0)] = some #[.pointer x0, .slice none 0 0, .int .i64 0, .int .u32 0, .slice none 0 0, .slice none 0 0, .int .i64 0, .slice none 0 0, .int .i64 0] := by kernel_rfl
theorem bld_91  : Tryz.prog.built 91 [] = some #[.slice none 0 0, .slice none 0 0, .slice none 0 0, .int .u32 0, .slice none 0 0, .int .i64 0] := by kernel_rfl
theorem bld_93_0_1_2_3 {x0 : Option Addr} {x1 : Option Addr} {x2 : Option Addr} {x2n x2c : Nat} {x3 : Option Addr} {x3n x3c : Nat} : Tryz.prog.built 93 [(0, .pointer x0), (1, .pointer x1), (2, .slice x2 x2n x2c), (3, .slice x3 x3n x3c)] = some #[.pointer x0, .pointer x1, .slice x2 x2n x2c, .slice x3 x3n x3c] := by kernel_rfl
theorem bld_95_0_1_2 {x0 : Option Addr} {x1 : Option Addr} {x2 : Option Addr} {x2n x2c : Nat} : Tryz.prog.built 95 [(0, .pointer x0), (1, .pointer x1), (2, .slice x2 x2n x2c)] = some #[.pointer x0, .pointer x1, .slice x2 x2n x2c] := by kernel_rfl
theorem bld_101_0_1 {x0 : Option Addr} {x1 : Option Addr} : Tryz.prog.built 101 [(0, .pointer x0), (1, .pointer x1)] = some #[.pointer x0, .pointer x1, .int .i64 0] := by kernel_rfl
theorem bld_104  : Tryz.prog.built 104 [] = some #[.int .i64 0, .int .i64 0, S []] := by kernel_rfl
theorem bld_104_0 {x0 : Int} : Tryz.prog.built 104 [(0, .int .i64 x0)] = some #[.int .i64 x0, .int .i64 0, S []] := by kernel_rfl
theorem bld_104_0_1 {x0 : Int} {x1 : Int} : Tryz.prog.built 104 [(0, .int .i64 x0), (1, .int .i64 x1)] = some #[.int .i64 x0, .int .i64 x1, S []] := by kernel_rfl
theorem bld_104_0_2 {x0 : Int} {x2 : ByteArray} : Tryz.prog.built 104 [(0, .int .i64 x0), (2, .string x2)] = some #[.int .i64 x0, .int .i64 0, .string x2] := by kernel_rfl
theorem bld_110_0_1_2_3 {x0 : Bool} {x1 : Int} {x2 : Int} {x3 : Int} : Tryz.prog.built 110 [(0, .bool x0), (1, .int .i64 x1), (2, .int .i64 x2), (3, .int .i64 x3)] = some #[.bool x0, .int .i64 x1, .int .i64 x2, .int .i64 x3] := by kernel_rfl
theorem bld_113  : Tryz.prog.built 113 [] = some #[.slice none 0 0, .int .i64 0, .int .i64 0, .int .i64 0] := by kernel_rfl
theorem bld_113_0_1 {x0 : Option Addr} {x0n x0c : Nat} {x1 : Int} : Tryz.prog.built 113 [(0, .slice x0 x0n x0c), (1, .int .i64 x1)] = some #[.slice x0 x0n x0c, .int .i64 x1, .int .i64 0, .int .i64 0] := by kernel_rfl
theorem bld_113_1_2 {x1 : Int} {x2 : Int} : Tryz.prog.built 113 [(1, .int .i64 x1), (2, .int .i64 x2)] = some #[.slice none 0 0, .int .i64 x1, .int .i64 x2, .int .i64 0] := by kernel_rfl
theorem bld_113_1_2_3 {x1 : Int} {x2 : Int} {x3 : Int} : Tryz.prog.built 113 [(1, .int .i64 x1), (2, .int .i64 x2), (3, .int .i64 x3)] = some #[.slice none 0 0, .int .i64 x1, .int .i64 x2, .int .i64 x3] := by kernel_rfl
theorem bld_125  : Tryz.prog.built 125 [] = some #[.int .i64 0, .int .i64 0, S []] := by kernel_rfl
theorem bld_129_0_1_2 {x0 : Option Addr} {x1 : Option Addr} {x1n x1c : Nat} {x2 : Option Addr} {x2n x2c : Nat} : Tryz.prog.built 129 [(0, .pointer x0), (1, .slice x1 x1n x1c), (2, .slice x2 x2n x2c)] = some #[.pointer x0, .slice x1 x1n x1c, .slice x2 x2n x2c, .int .i64 0] := by kernel_rfl
theorem bld_141  : Tryz.prog.built 141 [] = some #[.int .i64 0, .int .i64 0, .bool false, .bool false] := by kernel_rfl
theorem bld_143_0_1_2_3 {x0 : Int} {x1 : Int} {x2 : Int} {x3 : Int} : Tryz.prog.built 143 [(0, .int .i64 x0), (1, .int .i64 x1), (2, .int .i64 x2), (3, .int .i64 x3)] = some #[.int .i64 x0, .int .i64 x1, .int .i64 x2, .int .i64 x3, .int .i64 0, .int .i64 0, .int .i64 0, .bool false, .bool false, .int .i64 0, .int .i64 0, .bool false, .bool false] := by kernel_rfl
theorem bld_143_0_1_2_3_4 {x0 : Int} {x1 : Int} {x2 : Int} {x3 : Int} {x4 : Int} : Tryz.prog.built 143 [(0, .int .i64 x0), (1, .int .i64 x1), (2, .int .i64 x2), (3, .int .i64 x3), (4, .int .i64 x4)] = some #[.int .i64 x0, .int .i64 x1, .int .i64 x2, .int .i64 x3, .int .i64 x4, .int .i64 0, .int .i64 0, .bool false, .bool false, .int .i64 0, .int .i64 0, .bool false, .bool false] := by kernel_rfl
theorem bld_143_0_2_3 {x0 : Int} {x2 : Int} {x3 : Int} : Tryz.prog.built 143 [(0, .int .i64 x0), (2, .int .i64 x2), (3, .int .i64 x3)] = some #[.int .i64 x0, .int .i64 0, .int .i64 x2, .int .i64 x3, .int .i64 0, .int .i64 0, .int .i64 0, .bool false, .bool false, .int .i64 0, .int .i64 0, .bool false, .bool false] := by kernel_rfl
theorem bld_143_0_2_3_4 {x0 : Int} {x2 : Int} {x3 : Int} {x4 : Int} : Tryz.prog.built 143 [(0, .int .i64 x0), (2, .int .i64 x2), (3, .int .i64 x3), (4, .int .i64 x4)] = some #[.int .i64 x0, .int .i64 0, .int .i64 x2, .int .i64 x3, .int .i64 x4, .int .i64 0, .int .i64 0, .bool false, .bool false, .int .i64 0, .int .i64 0, .bool false, .bool false] := by kernel_rfl
theorem bld_143_0_2_3_5 {x0 : Int} {x2 : Int} {x3 : Int} {x5f0 : Int} {x5f1 : Int} {x5f2 : Bool} {x5f3 : Bool} : Tryz.prog.built 143 [(0, .int .i64 x0), (2, .int .i64 x2), (3, .int .i64 x3), (5, .agg #[.int .i64 x5f0, .int .i64 x5f1, .bool x5f2, .bool x5f3])] = some #[.int .i64 x0, .int .i64 0, .int .i64 x2, .int .i64 x3, .int .i64 0, .int .i64 x5f0, .int .i64 x5f1, .bool x5f2, .bool x5f3, .int .i64 0, .int .i64 0, .bool false, .bool false] := by kernel_rfl
theorem bld_143_0_2_3_5_6 {x0 : Int} {x2 : Int} {x3 : Int} {x5f0 : Int} {x5f1 : Int} {x5f2 : Bool} {x5f3 : Bool} {x6f0 : Int} {x6f1 : Int} {x6f2 : Bool} {x6f3 : Bool} : Tryz.prog.built 143 [(0, .int .i64 x0), (2, .int .i64 x2), (3, .int .i64 x3), (5, .agg #[.int .i64 x5f0, .int .i64 x5f1, .bool x5f2, .bool x5f3]), (6, .agg #[.int .i64 x6f0, .int .i64 x6f1, .bool x6f2, .bool x6f3])] = some #[.int .i64 x0, .int .i64 0, .int .i64 x2, .int .i64 x3, .int .i64 0, .int .i64 x5f0, .int .i64 x5f1, .bool x5f2, .bool x5f3, .int .i64 x6f0, .int .i64 x6f1, .bool x6f2, .bool x6f3] := by kernel_rfl
theorem bld_155_0 {x0 : Option Addr} : Tryz.prog.built 155 [(0, .pointer x0)] = some #[.pointer x0, .int .i64 0, .int .i64 0] := by kernel_rfl
theorem bld_168_0 {x0 : ByteArray} : Tryz.prog.built 168 [(0, .string x0)] = some #[.string x0, .int .i64 0, .slice none 0 0, .int .i64 0, .int .i64 0] := by kernel_rfl
theorem bld_185_0 {x0 : Option Addr} {x0n x0c : Nat} : Tryz.prog.built 185 [(0, .slice x0 x0n x0c)] = some #[.slice x0 x0n x0c, .int .i64 0, .int .i64 0] := by kernel_rfl
theorem bld_189  : Tryz.prog.built 189 [] = some #[.int .i64 0, .int .i64 0, .int .i64 0, .int .i64 0, .int .i64 0, .int .i64 0, .int .i64 0, .bool false, .bool false] := by kernel_rfl
theorem bld_189_0_1_2 {x0 : Int} {x1 : Int} {x2 : Int} : Tryz.prog.built 189 [(0, .int .i64 x0), (1, .int .i64 x1), (2, .int .i64 x2)] = some #[.int .i64 x0, .int .i64 x1, .int .i64 x2, .int .i64 0, .int .i64 0, .int .i64 0, .int .i64 0, .bool false, .bool false] := by kernel_rfl
theorem bld_189_0_1_2_3 {x0 : Int} {x1 : Int} {x2 : Int} {x3 : Int} : Tryz.prog.built 189 [(0, .int .i64 x0), (1, .int .i64 x1), (2, .int .i64 x2), (3, .int .i64 x3)] = some #[.int .i64 x0, .int .i64 x1, .int .i64 x2, .int .i64 x3, .int .i64 0, .int .i64 0, .int .i64 0, .bool false, .bool false] := by kernel_rfl
theorem bld_197_0 {x0 : Int} : Tryz.prog.built 197 [(0, .int .i64 x0)] = some #[.int .i64 x0, .int .i64 0, .int .i64 0, .int .i64 0, .int .i64 0] := by kernel_rfl
theorem bld_197_0_1 {x0 : Int} {x1 : Int} : Tryz.prog.built 197 [(0, .int .i64 x0), (1, .int .i64 x1)] = some #[.int .i64 x0, .int .i64 x1, .int .i64 0, .int .i64 0, .int .i64 0] := by kernel_rfl
theorem bld_197_0_1_2_4 {x0 : Int} {x1 : Int} {x2 : Int} {x4 : Int} : Tryz.prog.built 197 [(0, .int .i64 x0), (1, .int .i64 x1), (2, .int .i64 x2), (4, .int .i64 x4)] = some #[.int .i64 x0, .int .i64 x1, .int .i64 x2, .int .i64 0, .int .i64 x4] := by kernel_rfl
theorem bld_201_0 {x0 : Int} : Tryz.prog.built 201 [(0, .int .i64 x0)] = some #[.int .i64 x0, .bool false] := by kernel_rfl
theorem bld_201_0_1 {x0 : Int} {x1 : Bool} : Tryz.prog.built 201 [(0, .int .i64 x0), (1, .bool x1)] = some #[.int .i64 x0, .bool x1] := by kernel_rfl
theorem bld_213_0_1_2_3 {x0 : Int} {x1 : Int} {x2f0 : Int} {x2f1 : Int} {x2f2 : ByteArray} {x3 : Int} : Tryz.prog.built 213 [(0, .int .i64 x0), (1, .int .i64 x1), (2, .agg #[.int .i64 x2f0, .int .i64 x2f1, .string x2f2]), (3, .int .u32 x3)] = some #[.int .i64 x0, .int .i64 x1, .int .i64 x2f0, .int .i64 x2f1, .string x2f2, .int .u32 x3] := by kernel_rfl
theorem bld_228  : Tryz.prog.built 228 [] = some #[.int .i64 0, .int .i64 0, S [], .int .i64 0, .int .i64 0] := by kernel_rfl
theorem bld_232_5 {x5 : Bool} : Tryz.prog.built 232 [(5, .bool x5)] = some #[.int .i64 0, .int .i64 0, S [], .int .i64 0, .int .i64 0, .int .i64 0, .int .i64 0, .bool x5, .bool false] := by kernel_rfl
theorem by_3 : ((Tryz.prog.info? 3).any fun i => i.bytes == 8) = true := by kernel_rfl
theorem by_5 : ((Tryz.prog.info? 5).any fun i => i.bytes == 1) = true := by kernel_rfl
theorem by_9 : ((Tryz.prog.info? 9).any fun i => i.bytes == 16) = true := by kernel_rfl
theorem by_22 : ((Tryz.prog.info? 22).any fun i => i.bytes == 8) = true := by kernel_rfl
theorem by_24 : ((Tryz.prog.info? 24).any fun i => i.bytes == 8) = true := by kernel_rfl
theorem by_56 : ((Tryz.prog.info? 56).any fun i => i.bytes == 24) = true := by kernel_rfl
theorem by_85 : ((Tryz.prog.info? 85).any fun i => i.bytes == 4) = true := by kernel_rfl
theorem by_104 : ((Tryz.prog.info? 104).any fun i => i.bytes == 32) = true := by kernel_rfl
theorem by_143 : ((Tryz.prog.info? 143).any fun i => i.bytes == 88) = true := by kernel_rfl
theorem by_189 : ((Tryz.prog.info? 189).any fun i => i.bytes == 64) = true := by kernel_rfl
theorem by_197 : ((Tryz.prog.info? 197).any fun i => i.bytes == 40) = true := by kernel_rfl
theorem by_201 : ((Tryz.prog.info? 201).any fun i => i.bytes == 16) = true := by kernel_rfl
theorem by_213 : ((Tryz.prog.info? 213).any fun i => i.bytes == 56) = true := by kernel_rfl
theorem by_228 : ((Tryz.prog.info? 228).any fun i => i.bytes == 48) = true := by kernel_rfl
theorem en_5 : Enters Tryz.prog 5 := enters_of Tryz.func5 (by kernel_rfl) (by kernel_rfl)
theorem en_6 : Enters Tryz.prog 6 := enters_of Tryz.func6 (by kernel_rfl) (by kernel_rfl)
theorem en_7 : Enters Tryz.prog 7 := enters_of Tryz.func7 (by kernel_rfl) (by kernel_rfl)
theorem en_8 : Enters Tryz.prog 8 := enters_of Tryz.func8 (by kernel_rfl) (by kernel_rfl)
theorem en_9 : Enters Tryz.prog 9 := enters_of Tryz.func9 (by kernel_rfl) (by kernel_rfl)
theorem en_10 : Enters Tryz.prog 10 := enters_of Tryz.func10 (by kernel_rfl) (by kernel_rfl)
theorem en_11 : Enters Tryz.prog 11 := enters_of Tryz.func11 (by kernel_rfl) (by kernel_rfl)
theorem en_12 : Enters Tryz.prog 12 := enters_of Tryz.func12 (by kernel_rfl) (by kernel_rfl)
theorem en_13 : Enters Tryz.prog 13 := enters_of Tryz.func13 (by kernel_rfl) (by kernel_rfl)
theorem en_14 : Enters Tryz.prog 14 := enters_of Tryz.func14 (by kernel_rfl) (by kernel_rfl)
theorem en_15 : Enters Tryz.prog 15 := enters_of Tryz.func15 (by kernel_rfl) (by kernel_rfl)
theorem en_16 : Enters Tryz.prog 16 := enters_of Tryz.func16 (by kernel_rfl) (by kernel_rfl)
theorem en_17 : Enters Tryz.prog 17 := enters_of Tryz.func17 (by kernel_rfl) (by kernel_rfl)
theorem en_18 : Enters Tryz.prog 18 := enters_of Tryz.func18 (by kernel_rfl) (by kernel_rfl)
theorem en_19 : Enters Tryz.prog 19 := enters_of Tryz.func19 (by kernel_rfl) (by kernel_rfl)
theorem en_20 : Enters Tryz.prog 20 := enters_of Tryz.func20 (by kernel_rfl) (by kernel_rfl)
theorem en_21 : Enters Tryz.prog 21 := enters_of Tryz.func21 (by kernel_rfl) (by kernel_rfl)
theorem en_22 : Enters Tryz.prog 22 := enters_of Tryz.func22 (by kernel_rfl) (by kernel_rfl)
theorem en_23 : Enters Tryz.prog 23 := enters_of Tryz.func23 (by kernel_rfl) (by kernel_rfl)
theorem en_24 : Enters Tryz.prog 24 := enters_of Tryz.func24 (by kernel_rfl) (by kernel_rfl)
theorem en_25 : Enters Tryz.prog 25 := enters_of Tryz.func25 (by kernel_rfl) (by kernel_rfl)
theorem en_26 : Enters Tryz.prog 26 := enters_of Tryz.func26 (by kernel_rfl) (by kernel_rfl)
theorem en_27 : Enters Tryz.prog 27 := enters_of Tryz.func27 (by kernel_rfl) (by kernel_rfl)
theorem en_28 : Enters Tryz.prog 28 := enters_of Tryz.func28 (by kernel_rfl) (by kernel_rfl)
theorem en_29 : Enters Tryz.prog 29 := enters_of Tryz.func29 (by kernel_rfl) (by kernel_rfl)
theorem en_30 : Enters Tryz.prog 30 := enters_of Tryz.func30 (by kernel_rfl) (by kernel_rfl)
theorem en_31 : Enters Tryz.prog 31 := enters_of Tryz.func31 (by kernel_rfl) (by kernel_rfl)
theorem en_32 : Enters Tryz.prog 32 := enters_of Tryz.func32 (by kernel_rfl) (by kernel_rfl)
theorem en_33 : Enters Tryz.prog 33 := enters_of Tryz.func33 (by kernel_rfl) (by kernel_rfl)
theorem en_34 : Enters Tryz.prog 34 := enters_of Tryz.func34 (by kernel_rfl) (by kernel_rfl)
theorem en_35 : Enters Tryz.prog 35 := enters_of Tryz.func35 (by kernel_rfl) (by kernel_rfl)
theorem en_36 : Enters Tryz.prog 36 := enters_of Tryz.func36 (by kernel_rfl) (by kernel_rfl)
theorem en_37 : Enters Tryz.prog 37 := enters_of Tryz.func37 (by kernel_rfl) (by kernel_rfl)
theorem en_38 : Enters Tryz.prog 38 := enters_of Tryz.func38 (by kernel_rfl) (by kernel_rfl)
theorem en_39 : Enters Tryz.prog 39 := enters_of Tryz.func39 (by kernel_rfl) (by kernel_rfl)
theorem en_40 : Enters Tryz.prog 40 := enters_of Tryz.func40 (by kernel_rfl) (by kernel_rfl)
theorem en_41 : Enters Tryz.prog 41 := enters_of Tryz.func41 (by kernel_rfl) (by kernel_rfl)
theorem en_42 : Enters Tryz.prog 42 := enters_of Tryz.func42 (by kernel_rfl) (by kernel_rfl)
theorem en_43 : Enters Tryz.prog 43 := enters_of Tryz.func43 (by kernel_rfl) (by kernel_rfl)
theorem en_44 : Enters Tryz.prog 44 := enters_of Tryz.func44 (by kernel_rfl) (by kernel_rfl)
theorem en_45 : Enters Tryz.prog 45 := enters_of Tryz.func45 (by kernel_rfl) (by kernel_rfl)
theorem en_46 : Enters Tryz.prog 46 := enters_of Tryz.func46 (by kernel_rfl) (by kernel_rfl)
theorem en_47 : Enters Tryz.prog 47 := enters_of Tryz.func47 (by kernel_rfl) (by kernel_rfl)
theorem en_48 : Enters Tryz.prog 48 := enters_of Tryz.func48 (by kernel_rfl) (by kernel_rfl)
theorem en_49 : Enters Tryz.prog 49 := enters_of Tryz.func49 (by kernel_rfl) (by kernel_rfl)
theorem en_50 : Enters Tryz.prog 50 := enters_of Tryz.func50 (by kernel_rfl) (by kernel_rfl)
theorem en_51 : Enters Tryz.prog 51 := enters_of Tryz.func51 (by kernel_rfl) (by kernel_rfl)
theorem en_52 : Enters Tryz.prog 52 := enters_of Tryz.func52 (by kernel_rfl) (by kernel_rfl)
theorem en_53 : Enters Tryz.prog 53 := enters_of Tryz.func53 (by kernel_rfl) (by kernel_rfl)
theorem en_54 : Enters Tryz.prog 54 := enters_of Tryz.func54 (by kernel_rfl) (by kernel_rfl)
theorem en_55 : Enters Tryz.prog 55 := enters_of Tryz.func55 (by kernel_rfl) (by kernel_rfl)
theorem en_56 : Enters Tryz.prog 56 := enters_of Tryz.func56 (by kernel_rfl) (by kernel_rfl)
theorem en_57 : Enters Tryz.prog 57 := enters_of Tryz.func57 (by kernel_rfl) (by kernel_rfl)
theorem en_58 : Enters Tryz.prog 58 := enters_of Tryz.func58 (by kernel_rfl) (by kernel_rfl)
theorem en_59 : Enters Tryz.prog 59 := enters_of Tryz.func59 (by kernel_rfl) (by kernel_rfl)
theorem en_60 : Enters Tryz.prog 60 := enters_of Tryz.func60 (by kernel_rfl) (by kernel_rfl)
theorem en_61 : Enters Tryz.prog 61 := enters_of Tryz.func61 (by kernel_rfl) (by kernel_rfl)
theorem en_62 : Enters Tryz.prog 62 := enters_of Tryz.func62 (by kernel_rfl) (by kernel_rfl)
theorem en_63 : Enters Tryz.prog 63 := enters_of Tryz.func63 (by kernel_rfl) (by kernel_rfl)
theorem en_64 : Enters Tryz.prog 64 := enters_of Tryz.func64 (by kernel_rfl) (by kernel_rfl)
theorem en_65 : Enters Tryz.prog 65 := enters_of Tryz.func65 (by kernel_rfl) (by kernel_rfl)
theorem en_66 : Enters Tryz.prog 66 := enters_of Tryz.func66 (by kernel_rfl) (by kernel_rfl)
theorem en_67 : Enters Tryz.prog 67 := enters_of Tryz.func67 (by kernel_rfl) (by kernel_rfl)
theorem en_68 : Enters Tryz.prog 68 := enters_of Tryz.func68 (by kernel_rfl) (by kernel_rfl)
theorem en_69 : Enters Tryz.prog 69 := enters_of Tryz.func69 (by kernel_rfl) (by kernel_rfl)
theorem en_70 : Enters Tryz.prog 70 := enters_of Tryz.func70 (by kernel_rfl) (by kernel_rfl)
theorem en_71 : Enters Tryz.prog 71 := enters_of Tryz.func71 (by kernel_rfl) (by kernel_rfl)
theorem en_72 : Enters Tryz.prog 72 := enters_of Tryz.func72 (by kernel_rfl) (by kernel_rfl)
theorem en_73 : Enters Tryz.prog 73 := enters_of Tryz.func73 (by kernel_rfl) (by kernel_rfl)
theorem en_74 : Enters Tryz.prog 74 := enters_of Tryz.func74 (by kernel_rfl) (by kernel_rfl)
theorem en_75 : Enters Tryz.prog 75 := enters_of Tryz.func75 (by kernel_rfl) (by kernel_rfl)
theorem en_76 : Enters Tryz.prog 76 := enters_of Tryz.func76 (by kernel_rfl) (by kernel_rfl)
theorem en_77 : Enters Tryz.prog 77 := enters_of Tryz.func77 (by kernel_rfl) (by kernel_rfl)
theorem en_78 : Enters Tryz.prog 78 := enters_of Tryz.func78 (by kernel_rfl) (by kernel_rfl)
theorem en_79 : Enters Tryz.prog 79 := enters_of Tryz.func79 (by kernel_rfl) (by kernel_rfl)
theorem en_80 : Enters Tryz.prog 80 := enters_of Tryz.func80 (by kernel_rfl) (by kernel_rfl)
theorem en_81 : Enters Tryz.prog 81 := enters_of Tryz.func81 (by kernel_rfl) (by kernel_rfl)
theorem en_82 : Enters Tryz.prog 82 := enters_of Tryz.func82 (by kernel_rfl) (by kernel_rfl)
theorem en_83 : Enters Tryz.prog 83 := enters_of Tryz.func83 (by kernel_rfl) (by kernel_rfl)
theorem en_84 : Enters Tryz.prog 84 := enters_of Tryz.func84 (by kernel_rfl) (by kernel_rfl)
theorem en_85 : Enters Tryz.prog 85 := enters_of Tryz.func85 (by kernel_rfl) (by kernel_rfl)
theorem en_86 : Enters Tryz.prog 86 := enters_of Tryz.func86 (by kernel_rfl) (by kernel_rfl)
theorem en_87 : Enters Tryz.prog 87 := enters_of Tryz.func87 (by kernel_rfl) (by kernel_rfl)
theorem en_88 : Enters Tryz.prog 88 := enters_of Tryz.func88 (by kernel_rfl) (by kernel_rfl)
theorem en_89 : Enters Tryz.prog 89 := enters_of Tryz.func89 (by kernel_rfl) (by kernel_rfl)
theorem en_90 : Enters Tryz.prog 90 := enters_of Tryz.func90 (by kernel_rfl) (by kernel_rfl)
theorem en_91 : Enters Tryz.prog 91 := enters_of Tryz.func91 (by kernel_rfl) (by kernel_rfl)
theorem en_92 : Enters Tryz.prog 92 := enters_of Tryz.func92 (by kernel_rfl) (by kernel_rfl)
theorem en_93 : Enters Tryz.prog 93 := enters_of Tryz.func93 (by kernel_rfl) (by kernel_rfl)
theorem en_94 : Enters Tryz.prog 94 := enters_of Tryz.func94 (by kernel_rfl) (by kernel_rfl)
theorem en_95 : Enters Tryz.prog 95 := enters_of Tryz.func95 (by kernel_rfl) (by kernel_rfl)
theorem en_96 : Enters Tryz.prog 96 := enters_of Tryz.func96 (by kernel_rfl) (by kernel_rfl)
theorem en_97 : Enters Tryz.prog 97 := enters_of Tryz.func97 (by kernel_rfl) (by kernel_rfl)
theorem en_98 : Enters Tryz.prog 98 := enters_of Tryz.func98 (by kernel_rfl) (by kernel_rfl)
theorem en_99 : Enters Tryz.prog 99 := enters_of Tryz.func99 (by kernel_rfl) (by kernel_rfl)
theorem en_100 : Enters Tryz.prog 100 := enters_of Tryz.func100 (by kernel_rfl) (by kernel_rfl)
theorem en_101 : Enters Tryz.prog 101 := enters_of Tryz.func101 (by kernel_rfl) (by kernel_rfl)
theorem en_102 : Enters Tryz.prog 102 := enters_of Tryz.func102 (by kernel_rfl) (by kernel_rfl)
theorem en_103 : Enters Tryz.prog 103 := enters_of Tryz.func103 (by kernel_rfl) (by kernel_rfl)
theorem en_104 : Enters Tryz.prog 104 := enters_of Tryz.func104 (by kernel_rfl) (by kernel_rfl)
theorem en_105 : Enters Tryz.prog 105 := enters_of Tryz.func105 (by kernel_rfl) (by kernel_rfl)
theorem en_106 : Enters Tryz.prog 106 := enters_of Tryz.func106 (by kernel_rfl) (by kernel_rfl)
theorem en_107 : Enters Tryz.prog 107 := enters_of Tryz.func107 (by kernel_rfl) (by kernel_rfl)
theorem en_108 : Enters Tryz.prog 108 := enters_of Tryz.func108 (by kernel_rfl) (by kernel_rfl)
theorem en_109 : Enters Tryz.prog 109 := enters_of Tryz.func109 (by kernel_rfl) (by kernel_rfl)
theorem en_110 : Enters Tryz.prog 110 := enters_of Tryz.func110 (by kernel_rfl) (by kernel_rfl)
theorem en_111 : Enters Tryz.prog 111 := enters_of Tryz.func111 (by kernel_rfl) (by kernel_rfl)
theorem en_112 : Enters Tryz.prog 112 := enters_of Tryz.func112 (by kernel_rfl) (by kernel_rfl)
theorem en_113 : Enters Tryz.prog 113 := enters_of Tryz.func113 (by kernel_rfl) (by kernel_rfl)
theorem en_114 : Enters Tryz.prog 114 := enters_of Tryz.func114 (by kernel_rfl) (by kernel_rfl)
theorem en_115 : Enters Tryz.prog 115 := enters_of Tryz.func115 (by kernel_rfl) (by kernel_rfl)
theorem en_116 : Enters Tryz.prog 116 := enters_of Tryz.func116 (by kernel_rfl) (by kernel_rfl)
theorem en_117 : Enters Tryz.prog 117 := enters_of Tryz.func117 (by kernel_rfl) (by kernel_rfl)
theorem en_118 : Enters Tryz.prog 118 := enters_of Tryz.func118 (by kernel_rfl) (by kernel_rfl)
theorem en_119 : Enters Tryz.prog 119 := enters_of Tryz.func119 (by kernel_rfl) (by kernel_rfl)
theorem en_120 : Enters Tryz.prog 120 := enters_of Tryz.func120 (by kernel_rfl) (by kernel_rfl)
theorem en_121 : Enters Tryz.prog 121 := enters_of Tryz.func121 (by kernel_rfl) (by kernel_rfl)
theorem en_122 : Enters Tryz.prog 122 := enters_of Tryz.func122 (by kernel_rfl) (by kernel_rfl)
theorem en_123 : Enters Tryz.prog 123 := enters_of Tryz.func123 (by kernel_rfl) (by kernel_rfl)
theorem en_124 : Enters Tryz.prog 124 := enters_of Tryz.func124 (by kernel_rfl) (by kernel_rfl)
theorem en_125 : Enters Tryz.prog 125 := enters_of Tryz.func125 (by kernel_rfl) (by kernel_rfl)
theorem en_126 : Enters Tryz.prog 126 := enters_of Tryz.func126 (by kernel_rfl) (by kernel_rfl)
theorem en_127 : Enters Tryz.prog 127 := enters_of Tryz.func127 (by kernel_rfl) (by kernel_rfl)
theorem en_128 : Enters Tryz.prog 128 := enters_of Tryz.func128 (by kernel_rfl) (by kernel_rfl)
theorem en_129 : Enters Tryz.prog 129 := enters_of Tryz.func129 (by kernel_rfl) (by kernel_rfl)
theorem en_130 : Enters Tryz.prog 130 := enters_of Tryz.func130 (by kernel_rfl) (by kernel_rfl)
theorem en_131 : Enters Tryz.prog 131 := enters_of Tryz.func131 (by kernel_rfl) (by kernel_rfl)
theorem en_132 : Enters Tryz.prog 132 := enters_of Tryz.func132 (by kernel_rfl) (by kernel_rfl)
theorem en_133 : Enters Tryz.prog 133 := enters_of Tryz.func133 (by kernel_rfl) (by kernel_rfl)
theorem en_134 : Enters Tryz.prog 134 := enters_of Tryz.func134 (by kernel_rfl) (by kernel_rfl)
theorem en_135 : Enters Tryz.prog 135 := enters_of Tryz.func135 (by kernel_rfl) (by kernel_rfl)
theorem en_136 : Enters Tryz.prog 136 := enters_of Tryz.func136 (by kernel_rfl) (by kernel_rfl)
theorem en_137 : Enters Tryz.prog 137 := enters_of Tryz.func137 (by kernel_rfl) (by kernel_rfl)
theorem en_138 : Enters Tryz.prog 138 := enters_of Tryz.func138 (by kernel_rfl) (by kernel_rfl)
theorem en_139 : Enters Tryz.prog 139 := enters_of Tryz.func139 (by kernel_rfl) (by kernel_rfl)
theorem en_140 : Enters Tryz.prog 140 := enters_of Tryz.func140 (by kernel_rfl) (by kernel_rfl)
theorem en_141 : Enters Tryz.prog 141 := enters_of Tryz.func141 (by kernel_rfl) (by kernel_rfl)
theorem en_142 : Enters Tryz.prog 142 := enters_of Tryz.func142 (by kernel_rfl) (by kernel_rfl)
theorem en_143 : Enters Tryz.prog 143 := enters_of Tryz.func143 (by kernel_rfl) (by kernel_rfl)
theorem en_144 : Enters Tryz.prog 144 := enters_of Tryz.func144 (by kernel_rfl) (by kernel_rfl)
theorem en_145 : Enters Tryz.prog 145 := enters_of Tryz.func145 (by kernel_rfl) (by kernel_rfl)
theorem en_146 : Enters Tryz.prog 146 := enters_of Tryz.func146 (by kernel_rfl) (by kernel_rfl)
theorem en_147 : Enters Tryz.prog 147 := enters_of Tryz.func147 (by kernel_rfl) (by kernel_rfl)
theorem en_148 : Enters Tryz.prog 148 := enters_of Tryz.func148 (by kernel_rfl) (by kernel_rfl)
theorem en_149 : Enters Tryz.prog 149 := enters_of Tryz.func149 (by kernel_rfl) (by kernel_rfl)
theorem en_150 : Enters Tryz.prog 150 := enters_of Tryz.func150 (by kernel_rfl) (by kernel_rfl)
theorem en_151 : Enters Tryz.prog 151 := enters_of Tryz.func151 (by kernel_rfl) (by kernel_rfl)
theorem en_152 : Enters Tryz.prog 152 := enters_of Tryz.func152 (by kernel_rfl) (by kernel_rfl)
theorem en_153 : Enters Tryz.prog 153 := enters_of Tryz.func153 (by kernel_rfl) (by kernel_rfl)
theorem en_154 : Enters Tryz.prog 154 := enters_of Tryz.func154 (by kernel_rfl) (by kernel_rfl)
theorem en_155 : Enters Tryz.prog 155 := enters_of Tryz.func155 (by kernel_rfl) (by kernel_rfl)
theorem en_156 : Enters Tryz.prog 156 := enters_of Tryz.func156 (by kernel_rfl) (by kernel_rfl)
theorem en_157 : Enters Tryz.prog 157 := enters_of Tryz.func157 (by kernel_rfl) (by kernel_rfl)
theorem en_158 : Enters Tryz.prog 158 := enters_of Tryz.func158 (by kernel_rfl) (by kernel_rfl)
theorem en_159 : Enters Tryz.prog 159 := enters_of Tryz.func159 (by kernel_rfl) (by kernel_rfl)
theorem en_160 : Enters Tryz.prog 160 := enters_of Tryz.func160 (by kernel_rfl) (by kernel_rfl)
theorem en_161 : Enters Tryz.prog 161 := enters_of Tryz.func161 (by kernel_rfl) (by kernel_rfl)
theorem en_162 : Enters Tryz.prog 162 := enters_of Tryz.func162 (by kernel_rfl) (by kernel_rfl)
theorem en_163 : Enters Tryz.prog 163 := enters_of Tryz.func163 (by kernel_rfl) (by kernel_rfl)
theorem en_164 : Enters Tryz.prog 164 := enters_of Tryz.func164 (by kernel_rfl) (by kernel_rfl)
theorem en_165 : Enters Tryz.prog 165 := enters_of Tryz.func165 (by kernel_rfl) (by kernel_rfl)
theorem en_166 : Enters Tryz.prog 166 := enters_of Tryz.func166 (by kernel_rfl) (by kernel_rfl)
theorem en_167 : Enters Tryz.prog 167 := enters_of Tryz.func167 (by kernel_rfl) (by kernel_rfl)
theorem en_168 : Enters Tryz.prog 168 := enters_of Tryz.func168 (by kernel_rfl) (by kernel_rfl)
theorem en_169 : Enters Tryz.prog 169 := enters_of Tryz.func169 (by kernel_rfl) (by kernel_rfl)
theorem en_170 : Enters Tryz.prog 170 := enters_of Tryz.func170 (by kernel_rfl) (by kernel_rfl)
theorem en_171 : Enters Tryz.prog 171 := enters_of Tryz.func171 (by kernel_rfl) (by kernel_rfl)
theorem en_172 : Enters Tryz.prog 172 := enters_of Tryz.func172 (by kernel_rfl) (by kernel_rfl)
theorem en_173 : Enters Tryz.prog 173 := enters_of Tryz.func173 (by kernel_rfl) (by kernel_rfl)
theorem en_174 : Enters Tryz.prog 174 := enters_of Tryz.func174 (by kernel_rfl) (by kernel_rfl)
theorem en_175 : Enters Tryz.prog 175 := enters_of Tryz.func175 (by kernel_rfl) (by kernel_rfl)
theorem en_176 : Enters Tryz.prog 176 := enters_of Tryz.func176 (by kernel_rfl) (by kernel_rfl)
theorem en_177 : Enters Tryz.prog 177 := enters_of Tryz.func177 (by kernel_rfl) (by kernel_rfl)
theorem en_178 : Enters Tryz.prog 178 := enters_of Tryz.func178 (by kernel_rfl) (by kernel_rfl)
theorem en_179 : Enters Tryz.prog 179 := enters_of Tryz.func179 (by kernel_rfl) (by kernel_rfl)
theorem en_180 : Enters Tryz.prog 180 := enters_of Tryz.func180 (by kernel_rfl) (by kernel_rfl)
theorem en_181 : Enters Tryz.prog 181 := enters_of Tryz.func181 (by kernel_rfl) (by kernel_rfl)
theorem en_182 : Enters Tryz.prog 182 := enters_of Tryz.func182 (by kernel_rfl) (by kernel_rfl)
theorem en_183 : Enters Tryz.prog 183 := enters_of Tryz.func183 (by kernel_rfl) (by kernel_rfl)
theorem en_184 : Enters Tryz.prog 184 := enters_of Tryz.func184 (by kernel_rfl) (by kernel_rfl)
theorem en_185 : Enters Tryz.prog 185 := enters_of Tryz.func185 (by kernel_rfl) (by kernel_rfl)
theorem en_186 : Enters Tryz.prog 186 := enters_of Tryz.func186 (by kernel_rfl) (by kernel_rfl)
theorem en_187 : Enters Tryz.prog 187 := enters_of Tryz.func187 (by kernel_rfl) (by kernel_rfl)
theorem en_188 : Enters Tryz.prog 188 := enters_of Tryz.func188 (by kernel_rfl) (by kernel_rfl)
theorem en_189 : Enters Tryz.prog 189 := enters_of Tryz.func189 (by kernel_rfl) (by kernel_rfl)
theorem en_190 : Enters Tryz.prog 190 := enters_of Tryz.func190 (by kernel_rfl) (by kernel_rfl)
theorem en_191 : Enters Tryz.prog 191 := enters_of Tryz.func191 (by kernel_rfl) (by kernel_rfl)
theorem en_192 : Enters Tryz.prog 192 := enters_of Tryz.func192 (by kernel_rfl) (by kernel_rfl)
theorem en_193 : Enters Tryz.prog 193 := enters_of Tryz.func193 (by kernel_rfl) (by kernel_rfl)
theorem en_194 : Enters Tryz.prog 194 := enters_of Tryz.func194 (by kernel_rfl) (by kernel_rfl)
theorem en_195 : Enters Tryz.prog 195 := enters_of Tryz.func195 (by kernel_rfl) (by kernel_rfl)
theorem en_196 : Enters Tryz.prog 196 := enters_of Tryz.func196 (by kernel_rfl) (by kernel_rfl)
theorem en_197 : Enters Tryz.prog 197 := enters_of Tryz.func197 (by kernel_rfl) (by kernel_rfl)
theorem en_198 : Enters Tryz.prog 198 := enters_of Tryz.func198 (by kernel_rfl) (by kernel_rfl)
theorem en_199 : Enters Tryz.prog 199 := enters_of Tryz.func199 (by kernel_rfl) (by kernel_rfl)
theorem en_200 : Enters Tryz.prog 200 := enters_of Tryz.func200 (by kernel_rfl) (by kernel_rfl)
theorem en_201 : Enters Tryz.prog 201 := enters_of Tryz.func201 (by kernel_rfl) (by kernel_rfl)
theorem en_202 : Enters Tryz.prog 202 := enters_of Tryz.func202 (by kernel_rfl) (by kernel_rfl)
theorem en_203 : Enters Tryz.prog 203 := enters_of Tryz.func203 (by kernel_rfl) (by kernel_rfl)
theorem en_204 : Enters Tryz.prog 204 := enters_of Tryz.func204 (by kernel_rfl) (by kernel_rfl)
theorem en_205 : Enters Tryz.prog 205 := enters_of Tryz.func205 (by kernel_rfl) (by kernel_rfl)
theorem en_206 : Enters Tryz.prog 206 := enters_of Tryz.func206 (by kernel_rfl) (by kernel_rfl)
theorem en_207 : Enters Tryz.prog 207 := enters_of Tryz.func207 (by kernel_rfl) (by kernel_rfl)
theorem en_208 : Enters Tryz.prog 208 := enters_of Tryz.func208 (by kernel_rfl) (by kernel_rfl)
theorem en_209 : Enters Tryz.prog 209 := enters_of Tryz.func209 (by kernel_rfl) (by kernel_rfl)
theorem en_210 : Enters Tryz.prog 210 := enters_of Tryz.func210 (by kernel_rfl) (by kernel_rfl)
theorem en_211 : Enters Tryz.prog 211 := enters_of Tryz.func211 (by kernel_rfl) (by kernel_rfl)
theorem en_212 : Enters Tryz.prog 212 := enters_of Tryz.func212 (by kernel_rfl) (by kernel_rfl)
theorem en_213 : Enters Tryz.prog 213 := enters_of Tryz.func213 (by kernel_rfl) (by kernel_rfl)
theorem en_214 : Enters Tryz.prog 214 := enters_of Tryz.func214 (by kernel_rfl) (by kernel_rfl)
theorem en_215 : Enters Tryz.prog 215 := enters_of Tryz.func215 (by kernel_rfl) (by kernel_rfl)
theorem en_216 : Enters Tryz.prog 216 := enters_of Tryz.func216 (by kernel_rfl) (by kernel_rfl)
theorem en_217 : Enters Tryz.prog 217 := enters_of Tryz.func217 (by kernel_rfl) (by kernel_rfl)
theorem en_218 : Enters Tryz.prog 218 := enters_of Tryz.func218 (by kernel_rfl) (by kernel_rfl)
theorem en_219 : Enters Tryz.prog 219 := enters_of Tryz.func219 (by kernel_rfl) (by kernel_rfl)
theorem en_220 : Enters Tryz.prog 220 := enters_of Tryz.func220 (by kernel_rfl) (by kernel_rfl)
theorem en_221 : Enters Tryz.prog 221 := enters_of Tryz.func221 (by kernel_rfl) (by kernel_rfl)
theorem en_222 : Enters Tryz.prog 222 := enters_of Tryz.func222 (by kernel_rfl) (by kernel_rfl)
theorem en_223 : Enters Tryz.prog 223 := enters_of Tryz.func223 (by kernel_rfl) (by kernel_rfl)
theorem en_224 : Enters Tryz.prog 224 := enters_of Tryz.func224 (by kernel_rfl) (by kernel_rfl)
theorem en_225 : Enters Tryz.prog 225 := enters_of Tryz.func225 (by kernel_rfl) (by kernel_rfl)
theorem en_226 : Enters Tryz.prog 226 := enters_of Tryz.func226 (by kernel_rfl) (by kernel_rfl)
theorem en_227 : Enters Tryz.prog 227 := enters_of Tryz.func227 (by kernel_rfl) (by kernel_rfl)
theorem en_228 : Enters Tryz.prog 228 := enters_of Tryz.func228 (by kernel_rfl) (by kernel_rfl)
theorem en_229 : Enters Tryz.prog 229 := enters_of Tryz.func229 (by kernel_rfl) (by kernel_rfl)
theorem en_230 : Enters Tryz.prog 230 := enters_of Tryz.func230 (by kernel_rfl) (by kernel_rfl)
theorem en_231 : Enters Tryz.prog 231 := enters_of Tryz.func231 (by kernel_rfl) (by kernel_rfl)
theorem en_232 : Enters Tryz.prog 232 := enters_of Tryz.func232 (by kernel_rfl) (by kernel_rfl)
theorem fo_53_0 : foffB Tryz.prog 53 0 0 = true := by kernel_rfl
theorem fo_53_1 : foffB Tryz.prog 53 1 1 = true := by kernel_rfl
theorem fo_53_2 : foffB Tryz.prog 53 2 2 = true := by kernel_rfl
theorem fo_60_0 : foffB Tryz.prog 60 0 0 = true := by kernel_rfl
theorem fo_60_1 : foffB Tryz.prog 60 1 1 = true := by kernel_rfl
theorem fo_60_2 : foffB Tryz.prog 60 2 2 = true := by kernel_rfl
theorem fo_60_3 : foffB Tryz.prog 60 3 3 = true := by kernel_rfl
theorem fo_60_4 : foffB Tryz.prog 60 4 4 = true := by kernel_rfl
theorem fo_60_5 : foffB Tryz.prog 60 5 5 = true := by kernel_rfl
theorem fo_60_6 : foffB Tryz.prog 60 6 6 = true := by kernel_rfl
theorem fo_60_7 : foffB Tryz.prog 60 7 7 = true := by kernel_rfl
theorem fo_70_0 : foffB Tryz.prog 70 0 0 = true := by kernel_rfl
theorem fo_70_1 : foffB Tryz.prog 70 1 1 = true := by kernel_rfl
theorem fo_70_2 : foffB Tryz.prog 70 2 2 = true := by kernel_rfl
theorem fo_70_3 : foffB Tryz.prog 70 3 3 = true := by kernel_rfl
theorem fo_70_4 : foffB Tryz.prog 70 4 4 = true := by kernel_rfl
theorem fo_70_5 : foffB Tryz.prog 70 5 5 = true := by kernel_rfl
theorem fo_75_0 : foffB Tryz.prog 75 0 0 = true := by kernel_rfl
theorem fo_75_1 : foffB Tryz.prog 75 1 1 = true := by kernel_rfl
theorem fo_75_2 : foffB Tryz.prog 75 2 2 = true := by kernel_rfl
theorem fo_83_0 : foffB Tryz.prog 83 0 0 = true := by kernel_rfl
theorem fo_83_1 : foffB Tryz.prog 83 1 1 = true := by kernel_rfl
theorem fo_83_2 : foffB Tryz.prog 83 2 2 = true := by kernel_rfl
theorem fo_83_3 : foffB Tryz.prog 83 3 3 = true := by kernel_rfl
theorem fo_83_4 : foffB Tryz.prog 83 4 4 = true := by kernel_rfl
theorem fo_83_5 : foffB Tryz.prog 83 5 5 = true := by kernel_rfl
theorem fo_83_6 : foffB Tryz.prog 83 6 6 = true := by kernel_rfl
theorem fo_83_7 : foffB Tryz.prog 83 7 7 = true := by kernel_rfl
theorem fo_83_8 : foffB Tryz.prog 83 8 8 = true := by kernel_rfl
theorem fo_83_9 : foffB Tryz.prog 83 9 9 = true := by kernel_rfl
theorem fo_83_10 : foffB Tryz.prog 83 10 10 = true := by kernel_rfl
theorem fo_83_11 : foffB Tryz.prog 83 11 11 = true := by kernel_rfl
theorem fo_83_12 : foffB Tryz.prog 83 12 12 = true := by kernel_rfl
theorem fo_83_13 : foffB Tryz.prog 83 13 13 = true := by kernel_rfl
theorem fo_83_14 : foffB Tryz.prog 83 14 14 = true := by kernel_rfl
theorem fo_83_15 : foffB Tryz.prog 83 15 15 = true := by kernel_rfl
theorem fo_83_16 : foffB Tryz.prog 83 16 16 = true := by kernel_rfl
theorem fo_89_0 : foffB Tryz.prog 89 0 0 = true := by kernel_rfl
theorem fo_89_1 : foffB Tryz.prog 89 1 1 = true := by kernel_rfl
theorem fo_89_2 : foffB Tryz.prog 89 2 2 = true := by kernel_rfl
theorem fo_89_3 : foffB Tryz.prog 89 3 3 = true := by kernel_rfl
theorem fo_89_4 : foffB Tryz.prog 89 4 4 = true := by kernel_rfl
theorem fo_89_5 : foffB Tryz.prog 89 5 5 = true := by kernel_rfl
theorem fo_89_6 : foffB Tryz.prog 89 6 6 = true := by kernel_rfl
theorem fo_89_7 : foffB Tryz.prog 89 7 7 = true := by kernel_rfl
theorem fo_89_8 : foffB Tryz.prog 89 8 8 = true := by kernel_rfl
theorem fo_91_0 : foffB Tryz.prog 91 0 0 = true := by kernel_rfl
theorem fo_91_1 : foffB Tryz.prog 91 1 1 = true := by kernel_rfl
theorem fo_91_2 : foffB Tryz.prog 91 2 2 = true := by kernel_rfl
theorem fo_91_3 : foffB Tryz.prog 91 3 3 = true := by kernel_rfl
theorem fo_91_4 : foffB Tryz.prog 91 4 4 = true := by kernel_rfl
theorem fo_91_5 : foffB Tryz.prog 91 5 5 = true := by kernel_rfl
theorem fo_93_0 : foffB Tryz.prog 93 0 0 = true := by kernel_rfl
theorem fo_93_1 : foffB Tryz.prog 93 1 1 = true := by kernel_rfl
theorem fo_93_2 : foffB Tryz.prog 93 2 2 = true := by kernel_rfl
theorem fo_93_3 : foffB Tryz.prog 93 3 3 = true := by kernel_rfl
theorem fo_95_0 : foffB Tryz.prog 95 0 0 = true := by kernel_rfl
theorem fo_95_1 : foffB Tryz.prog 95 1 1 = true := by kernel_rfl
theorem fo_95_2 : foffB Tryz.prog 95 2 2 = true := by kernel_rfl
theorem fo_101_0 : foffB Tryz.prog 101 0 0 = true := by kernel_rfl
theorem fo_101_1 : foffB Tryz.prog 101 1 1 = true := by kernel_rfl
theorem fo_101_2 : foffB Tryz.prog 101 2 2 = true := by kernel_rfl
theorem fo_104_0 : foffB Tryz.prog 104 0 0 = true := by kernel_rfl
theorem fo_104_1 : foffB Tryz.prog 104 1 1 = true := by kernel_rfl
theorem fo_104_2 : foffB Tryz.prog 104 2 2 = true := by kernel_rfl
theorem fo_110_0 : foffB Tryz.prog 110 0 0 = true := by kernel_rfl
theorem fo_110_1 : foffB Tryz.prog 110 1 1 = true := by kernel_rfl
theorem fo_110_2 : foffB Tryz.prog 110 2 2 = true := by kernel_rfl
theorem fo_110_3 : foffB Tryz.prog 110 3 3 = true := by kernel_rfl
theorem fo_113_0 : foffB Tryz.prog 113 0 0 = true := by kernel_rfl
theorem fo_113_1 : foffB Tryz.prog 113 1 1 = true := by kernel_rfl
theorem fo_113_2 : foffB Tryz.prog 113 2 2 = true := by kernel_rfl
theorem fo_113_3 : foffB Tryz.prog 113 3 3 = true := by kernel_rfl
theorem fo_125_0 : foffB Tryz.prog 125 0 0 = true := by kernel_rfl
theorem fo_125_1 : foffB Tryz.prog 125 1 1 = true := by kernel_rfl
theorem fo_125_2 : foffB Tryz.prog 125 2 2 = true := by kernel_rfl
theorem fo_129_0 : foffB Tryz.prog 129 0 0 = true := by kernel_rfl
theorem fo_129_1 : foffB Tryz.prog 129 1 1 = true := by kernel_rfl
theorem fo_129_2 : foffB Tryz.prog 129 2 2 = true := by kernel_rfl
theorem fo_129_3 : foffB Tryz.prog 129 3 3 = true := by kernel_rfl
theorem fo_141_0 : foffB Tryz.prog 141 0 0 = true := by kernel_rfl
theorem fo_141_1 : foffB Tryz.prog 141 1 1 = true := by kernel_rfl
theorem fo_141_2 : foffB Tryz.prog 141 2 2 = true := by kernel_rfl
theorem fo_141_3 : foffB Tryz.prog 141 3 3 = true := by kernel_rfl
theorem fo_143_0 : foffB Tryz.prog 143 0 0 = true := by kernel_rfl
theorem fo_143_1 : foffB Tryz.prog 143 1 1 = true := by kernel_rfl
theorem fo_143_2 : foffB Tryz.prog 143 2 2 = true := by kernel_rfl
theorem fo_143_3 : foffB Tryz.prog 143 3 3 = true := by kernel_rfl
theorem fo_143_4 : foffB Tryz.prog 143 4 4 = true := by kernel_rfl
theorem fo_143_5 : foffB Tryz.prog 143 5 5 = true := by kernel_rfl
theorem fo_143_6 : foffB Tryz.prog 143 6 9 = true := by kernel_rfl
theorem fo_155_0 : foffB Tryz.prog 155 0 0 = true := by kernel_rfl
theorem fo_155_1 : foffB Tryz.prog 155 1 1 = true := by kernel_rfl
theorem fo_155_2 : foffB Tryz.prog 155 2 2 = true := by kernel_rfl
theorem fo_168_0 : foffB Tryz.prog 168 0 0 = true := by kernel_rfl
theorem fo_168_1 : foffB Tryz.prog 168 1 1 = true := by kernel_rfl
theorem fo_168_2 : foffB Tryz.prog 168 2 2 = true := by kernel_rfl
theorem fo_168_3 : foffB Tryz.prog 168 3 3 = true := by kernel_rfl
theorem fo_168_4 : foffB Tryz.prog 168 4 4 = true := by kernel_rfl
theorem fo_185_0 : foffB Tryz.prog 185 0 0 = true := by kernel_rfl
theorem fo_185_1 : foffB Tryz.prog 185 1 1 = true := by kernel_rfl
theorem fo_185_2 : foffB Tryz.prog 185 2 2 = true := by kernel_rfl
theorem fo_189_0 : foffB Tryz.prog 189 0 0 = true := by kernel_rfl
theorem fo_189_1 : foffB Tryz.prog 189 1 1 = true := by kernel_rfl
theorem fo_189_2 : foffB Tryz.prog 189 2 2 = true := by kernel_rfl
theorem fo_189_3 : foffB Tryz.prog 189 3 3 = true := by kernel_rfl
theorem fo_189_4 : foffB Tryz.prog 189 4 4 = true := by kernel_rfl
theorem fo_189_5 : foffB Tryz.prog 189 5 5 = true := by kernel_rfl
theorem fo_197_0 : foffB Tryz.prog 197 0 0 = true := by kernel_rfl
theorem fo_197_1 : foffB Tryz.prog 197 1 1 = true := by kernel_rfl
theorem fo_197_2 : foffB Tryz.prog 197 2 2 = true := by kernel_rfl
theorem fo_197_3 : foffB Tryz.prog 197 3 3 = true := by kernel_rfl
theorem fo_197_4 : foffB Tryz.prog 197 4 4 = true := by kernel_rfl
theorem fo_201_0 : foffB Tryz.prog 201 0 0 = true := by kernel_rfl
theorem fo_201_1 : foffB Tryz.prog 201 1 1 = true := by kernel_rfl
theorem fo_213_0 : foffB Tryz.prog 213 0 0 = true := by kernel_rfl
theorem fo_213_1 : foffB Tryz.prog 213 1 1 = true := by kernel_rfl
theorem fo_213_2 : foffB Tryz.prog 213 2 2 = true := by kernel_rfl
theorem fo_213_3 : foffB Tryz.prog 213 3 5 = true := by kernel_rfl
theorem fo_228_0 : foffB Tryz.prog 228 0 0 = true := by kernel_rfl
theorem fo_228_1 : foffB Tryz.prog 228 1 3 = true := by kernel_rfl
theorem fo_228_2 : foffB Tryz.prog 228 2 4 = true := by kernel_rfl
theorem fo_232_0 : foffB Tryz.prog 232 0 0 = true := by kernel_rfl
theorem fo_232_1 : foffB Tryz.prog 232 1 3 = true := by kernel_rfl
theorem fo_232_2 : foffB Tryz.prog 232 2 4 = true := by kernel_rfl
theorem fo_232_3 : foffB Tryz.prog 232 3 5 = true := by kernel_rfl
theorem fo_232_4 : foffB Tryz.prog 232 4 6 = true := by kernel_rfl
theorem fo_232_5 : foffB Tryz.prog 232 5 7 = true := by kernel_rfl
theorem fo_232_6 : foffB Tryz.prog 232 6 8 = true := by kernel_rfl
theorem in_3 : intB Tryz.prog 3 .i64 = true := by kernel_rfl
theorem in_5 : intB Tryz.prog 5 .u8 = true := by kernel_rfl
theorem in_26 : intB Tryz.prog 26 .i64 = true := by kernel_rfl
theorem in_85 : intB Tryz.prog 85 .u32 = true := by kernel_rfl
theorem in_122 : intB Tryz.prog 122 .u64 = true := by kernel_rfl
theorem sc_3 : scalB Tryz.prog 3 = true := by kernel_rfl
theorem sc_4 : scalB Tryz.prog 4 = true := by kernel_rfl
theorem sc_5 : scalB Tryz.prog 5 = true := by kernel_rfl
theorem sc_9 : scalB Tryz.prog 9 = true := by kernel_rfl
theorem sc_22 : scalB Tryz.prog 22 = true := by kernel_rfl
theorem sc_24 : scalB Tryz.prog 24 = true := by kernel_rfl
theorem sc_26 : scalB Tryz.prog 26 = true := by kernel_rfl
theorem sc_35 : scalB Tryz.prog 35 = true := by kernel_rfl
theorem sc_38 : scalB Tryz.prog 38 = true := by kernel_rfl
theorem sc_40 : scalB Tryz.prog 40 = true := by kernel_rfl
theorem sc_42 : scalB Tryz.prog 42 = true := by kernel_rfl
theorem sc_44 : scalB Tryz.prog 44 = true := by kernel_rfl
theorem sc_46 : scalB Tryz.prog 46 = true := by kernel_rfl
theorem sc_49 : scalB Tryz.prog 49 = true := by kernel_rfl
theorem sc_51 : scalB Tryz.prog 51 = true := by kernel_rfl
theorem sc_56 : scalB Tryz.prog 56 = true := by kernel_rfl
theorem sc_57 : scalB Tryz.prog 57 = true := by kernel_rfl
theorem sc_58 : scalB Tryz.prog 58 = true := by kernel_rfl
theorem sc_72 : scalB Tryz.prog 72 = true := by kernel_rfl
theorem sc_73 : scalB Tryz.prog 73 = true := by kernel_rfl
theorem sc_77 : scalB Tryz.prog 77 = true := by kernel_rfl
theorem sc_78 : scalB Tryz.prog 78 = true := by kernel_rfl
theorem sc_79 : scalB Tryz.prog 79 = true := by kernel_rfl
theorem sc_80 : scalB Tryz.prog 80 = true := by kernel_rfl
theorem sc_81 : scalB Tryz.prog 81 = true := by kernel_rfl
theorem sc_84 : scalB Tryz.prog 84 = true := by kernel_rfl
theorem sc_85 : scalB Tryz.prog 85 = true := by kernel_rfl
theorem sc_86 : scalB Tryz.prog 86 = true := by kernel_rfl
theorem sc_87 : scalB Tryz.prog 87 = true := by kernel_rfl
theorem sc_96 : scalB Tryz.prog 96 = true := by kernel_rfl
theorem sc_98 : scalB Tryz.prog 98 = true := by kernel_rfl
theorem sc_122 : scalB Tryz.prog 122 = true := by kernel_rfl
theorem sc_126 : scalB Tryz.prog 126 = true := by kernel_rfl
theorem se_35 : selB Tryz.prog 35 70 6 = true := by kernel_rfl
theorem se_51 : selB Tryz.prog 51 56 1 = true := by kernel_rfl
theorem se_56 : selB Tryz.prog 56 9 1 = true := by kernel_rfl
theorem se_57 : selB Tryz.prog 57 85 1 = true := by kernel_rfl
theorem se_58 : selB Tryz.prog 58 5 1 = true := by kernel_rfl
theorem se_72 : selB Tryz.prog 72 22 1 = true := by kernel_rfl
theorem se_73 : selB Tryz.prog 73 24 1 = true := by kernel_rfl
theorem se_77 : selB Tryz.prog 77 189 9 = true := by kernel_rfl
theorem se_78 : selB Tryz.prog 78 143 13 = true := by kernel_rfl
theorem se_79 : selB Tryz.prog 79 3 1 = true := by kernel_rfl
theorem se_80 : selB Tryz.prog 80 197 5 = true := by kernel_rfl
theorem se_81 : selB Tryz.prog 81 201 2 = true := by kernel_rfl
theorem se_84 : selB Tryz.prog 84 213 6 = true := by kernel_rfl
theorem se_86 : selB Tryz.prog 86 104 3 = true := by kernel_rfl
theorem se_87 : selB Tryz.prog 87 228 5 = true := by kernel_rfl
theorem st_9 : strB Tryz.prog 9 = true := by kernel_rfl
theorem sz_3 : sizeB Tryz.prog 3 1 = true := by kernel_rfl
theorem sz_4 : sizeB Tryz.prog 4 1 = true := by kernel_rfl
theorem sz_5 : sizeB Tryz.prog 5 1 = true := by kernel_rfl
theorem sz_9 : sizeB Tryz.prog 9 1 = true := by kernel_rfl
theorem sz_22 : sizeB Tryz.prog 22 1 = true := by kernel_rfl
theorem sz_24 : sizeB Tryz.prog 24 1 = true := by kernel_rfl
theorem sz_26 : sizeB Tryz.prog 26 1 = true := by kernel_rfl
theorem sz_35 : sizeB Tryz.prog 35 1 = true := by kernel_rfl
theorem sz_38 : sizeB Tryz.prog 38 1 = true := by kernel_rfl
theorem sz_40 : sizeB Tryz.prog 40 1 = true := by kernel_rfl
theorem sz_42 : sizeB Tryz.prog 42 1 = true := by kernel_rfl
theorem sz_44 : sizeB Tryz.prog 44 1 = true := by kernel_rfl
theorem sz_46 : sizeB Tryz.prog 46 1 = true := by kernel_rfl
theorem sz_49 : sizeB Tryz.prog 49 1 = true := by kernel_rfl
theorem sz_51 : sizeB Tryz.prog 51 1 = true := by kernel_rfl
theorem sz_53 : sizeB Tryz.prog 53 3 = true := by kernel_rfl
theorem sz_56 : sizeB Tryz.prog 56 1 = true := by kernel_rfl
theorem sz_57 : sizeB Tryz.prog 57 1 = true := by kernel_rfl
theorem sz_58 : sizeB Tryz.prog 58 1 = true := by kernel_rfl
theorem sz_60 : sizeB Tryz.prog 60 8 = true := by kernel_rfl
theorem sz_70 : sizeB Tryz.prog 70 6 = true := by kernel_rfl
theorem sz_72 : sizeB Tryz.prog 72 1 = true := by kernel_rfl
theorem sz_73 : sizeB Tryz.prog 73 1 = true := by kernel_rfl
theorem sz_75 : sizeB Tryz.prog 75 3 = true := by kernel_rfl
theorem sz_77 : sizeB Tryz.prog 77 1 = true := by kernel_rfl
theorem sz_78 : sizeB Tryz.prog 78 1 = true := by kernel_rfl
theorem sz_79 : sizeB Tryz.prog 79 1 = true := by kernel_rfl
theorem sz_80 : sizeB Tryz.prog 80 1 = true := by kernel_rfl
theorem sz_81 : sizeB Tryz.prog 81 1 = true := by kernel_rfl
theorem sz_83 : sizeB Tryz.prog 83 17 = true := by kernel_rfl
theorem sz_84 : sizeB Tryz.prog 84 1 = true := by kernel_rfl
theorem sz_85 : sizeB Tryz.prog 85 1 = true := by kernel_rfl
theorem sz_86 : sizeB Tryz.prog 86 1 = true := by kernel_rfl
theorem sz_87 : sizeB Tryz.prog 87 1 = true := by kernel_rfl
theorem sz_89 : sizeB Tryz.prog 89 9 = true := by kernel_rfl
theorem sz_91 : sizeB Tryz.prog 91 6 = true := by kernel_rfl
theorem sz_93 : sizeB Tryz.prog 93 4 = true := by kernel_rfl
theorem sz_95 : sizeB Tryz.prog 95 3 = true := by kernel_rfl
theorem sz_96 : sizeB Tryz.prog 96 1 = true := by kernel_rfl
theorem sz_98 : sizeB Tryz.prog 98 1 = true := by kernel_rfl
theorem sz_101 : sizeB Tryz.prog 101 3 = true := by kernel_rfl
theorem sz_104 : sizeB Tryz.prog 104 3 = true := by kernel_rfl
theorem sz_110 : sizeB Tryz.prog 110 4 = true := by kernel_rfl
theorem sz_113 : sizeB Tryz.prog 113 4 = true := by kernel_rfl
theorem sz_122 : sizeB Tryz.prog 122 1 = true := by kernel_rfl
theorem sz_125 : sizeB Tryz.prog 125 3 = true := by kernel_rfl
theorem sz_126 : sizeB Tryz.prog 126 1 = true := by kernel_rfl
theorem sz_129 : sizeB Tryz.prog 129 4 = true := by kernel_rfl
theorem sz_141 : sizeB Tryz.prog 141 4 = true := by kernel_rfl
theorem sz_143 : sizeB Tryz.prog 143 13 = true := by kernel_rfl
theorem sz_155 : sizeB Tryz.prog 155 3 = true := by kernel_rfl
theorem sz_168 : sizeB Tryz.prog 168 5 = true := by kernel_rfl
theorem sz_185 : sizeB Tryz.prog 185 3 = true := by kernel_rfl
theorem sz_189 : sizeB Tryz.prog 189 9 = true := by kernel_rfl
theorem sz_197 : sizeB Tryz.prog 197 5 = true := by kernel_rfl
theorem sz_201 : sizeB Tryz.prog 201 2 = true := by kernel_rfl
theorem sz_213 : sizeB Tryz.prog 213 6 = true := by kernel_rfl
theorem sz_221 : sizeB Tryz.prog 221 24 = true := by kernel_rfl
theorem sz_228 : sizeB Tryz.prog 228 5 = true := by kernel_rfl
theorem sz_232 : sizeB Tryz.prog 232 9 = true := by kernel_rfl
theorem ze_3 : zeroB Tryz.prog 3 [.int .i64 0] := zeroB_of (by kernel_rfl)
theorem ze_5 : zeroB Tryz.prog 5 [.int .u8 0] := zeroB_of (by kernel_rfl)
theorem ze_9 : zeroB Tryz.prog 9 [S []] := zeroB_of (by kernel_rfl)
theorem ze_22 : zeroB Tryz.prog 22 [.pointer none] := zeroB_of (by kernel_rfl)
theorem ze_24 : zeroB Tryz.prog 24 [.pointer none] := zeroB_of (by kernel_rfl)
theorem ze_56 : zeroB Tryz.prog 56 [.slice none 0 0] := zeroB_of (by kernel_rfl)
theorem ze_85 : zeroB Tryz.prog 85 [.int .u32 0] := zeroB_of (by kernel_rfl)
theorem ze_104 : zeroB Tryz.prog 104 [.int .i64 0, .int .i64 0, S []] := zeroB_of (by kernel_rfl)
theorem ze_110 : zeroB Tryz.prog 110 [.bool false, .int .i64 0, .int .i64 0, .int .i64 0] := zeroB_of (by kernel_rfl)
theorem ze_113 : zeroB Tryz.prog 113 [.slice none 0 0, .int .i64 0, .int .i64 0, .int .i64 0] := zeroB_of (by kernel_rfl)
theorem ze_141 : zeroB Tryz.prog 141 [.int .i64 0, .int .i64 0, .bool false, .bool false] := zeroB_of (by kernel_rfl)
theorem ze_143 : zeroB Tryz.prog 143 [.int .i64 0, .int .i64 0, .int .i64 0, .int .i64 0, .int .i64 0, .int .i64 0, .int .i64 0, .bool false, .bool false, .int .i64 0, .int .i64 0, .bool false, .bool false] := zeroB_of (by kernel_rfl)
theorem ze_189 : zeroB Tryz.prog 189 [.int .i64 0, .int .i64 0, .int .i64 0, .int .i64 0, .int .i64 0, .int .i64 0, .int .i64 0, .bool false, .bool false] := zeroB_of (by kernel_rfl)
theorem ze_197 : zeroB Tryz.prog 197 [.int .i64 0, .int .i64 0, .int .i64 0, .int .i64 0, .int .i64 0] := zeroB_of (by kernel_rfl)
theorem ze_201 : zeroB Tryz.prog 201 [.int .i64 0, .bool false] := zeroB_of (by kernel_rfl)
theorem ze_213 : zeroB Tryz.prog 213 [.int .i64 0, .int .i64 0, .int .i64 0, .int .i64 0, S [], .int .u32 0] := zeroB_of (by kernel_rfl)
theorem ze_221 : zeroB Tryz.prog 221 [.int .u8 0, .int .u8 0, .int .u8 0, .int .u8 0, .int .u8 0, .int .u8 0, .int .u8 0, .int .u8 0, .int .u8 0, .int .u8 0, .int .u8 0, .int .u8 0, .int .u8 0, .int .u8 0, .int .u8 0, .int .u8 0, .int .u8 0, .int .u8 0, .int .u8 0, .int .u8 0, .int .u8 0, .int .u8 0, .int .u8 0, .int .u8 0] := zeroB_of (by kernel_rfl)
theorem ze_228 : zeroB Tryz.prog 228 [.int .i64 0, .int .i64 0, S [], .int .i64 0, .int .i64 0] := zeroB_of (by kernel_rfl)
theorem ze_232 : zeroB Tryz.prog 232 [.int .i64 0, .int .i64 0, S [], .int .i64 0, .int .i64 0, .int .i64 0, .int .i64 0, .bool false, .bool false] := zeroB_of (by kernel_rfl)
theorem zx_3 : ∃ z, zeroB Tryz.prog 3 z ∧ z.length = 1 := ⟨_, ze_3, rfl⟩
theorem zx_5 : ∃ z, zeroB Tryz.prog 5 z ∧ z.length = 1 := ⟨_, ze_5, rfl⟩
theorem zx_9 : ∃ z, zeroB Tryz.prog 9 z ∧ z.length = 1 := ⟨_, ze_9, rfl⟩
theorem zx_22 : ∃ z, zeroB Tryz.prog 22 z ∧ z.length = 1 := ⟨_, ze_22, rfl⟩
theorem zx_24 : ∃ z, zeroB Tryz.prog 24 z ∧ z.length = 1 := ⟨_, ze_24, rfl⟩
theorem zx_56 : ∃ z, zeroB Tryz.prog 56 z ∧ z.length = 1 := ⟨_, ze_56, rfl⟩
theorem zx_85 : ∃ z, zeroB Tryz.prog 85 z ∧ z.length = 1 := ⟨_, ze_85, rfl⟩
theorem zx_104 : ∃ z, zeroB Tryz.prog 104 z ∧ z.length = 3 := ⟨_, ze_104, rfl⟩
theorem zx_143 : ∃ z, zeroB Tryz.prog 143 z ∧ z.length = 13 := ⟨_, ze_143, rfl⟩
theorem zx_189 : ∃ z, zeroB Tryz.prog 189 z ∧ z.length = 9 := ⟨_, ze_189, rfl⟩
theorem zx_197 : ∃ z, zeroB Tryz.prog 197 z ∧ z.length = 5 := ⟨_, ze_197, rfl⟩
theorem zx_201 : ∃ z, zeroB Tryz.prog 201 z ∧ z.length = 2 := ⟨_, ze_201, rfl⟩
theorem zx_213 : ∃ z, zeroB Tryz.prog 213 z ∧ z.length = 6 := ⟨_, ze_213, rfl⟩
theorem zx_228 : ∃ z, zeroB Tryz.prog 228 z ∧ z.length = 5 := ⟨_, ze_228, rfl⟩
theorem mixed : Tryz.prog.follows .mixedOrders = true := by kernel_rfl
end Go.Proofs.Qxb6500570aGreat
