import Derived.Test.Qxb6500569aGreatRows
import Derived.Test.Qxb6500569aGreatFo
namespace Go.Proofs.Qxb6500569aGreat
set_option maxRecDepth 100000

theorem ag_28 : aggB Tryz.prog 28 3 = true := by kernel_rfl
theorem ag_49 : aggB Tryz.prog 49 9 = true := by kernel_rfl
theorem ag_57 : aggB Tryz.prog 57 6 = true := by kernel_rfl
theorem ag_62 : aggB Tryz.prog 62 2 = true := by kernel_rfl
theorem ag_69 : aggB Tryz.prog 69 6 = true := by kernel_rfl
theorem ag_74 : aggB Tryz.prog 74 4 = true := by kernel_rfl
theorem ag_82 : aggB Tryz.prog 82 12 = true := by kernel_rfl
theorem ag_84 : aggB Tryz.prog 84 2 = true := by kernel_rfl
theorem ag_94 : aggB Tryz.prog 94 4 = true := by kernel_rfl
theorem ag_100 : aggB Tryz.prog 100 5 = true := by kernel_rfl
theorem ag_117 : aggB Tryz.prog 117 3 = true := by kernel_rfl
theorem ag_121 : aggB Tryz.prog 121 3 = true := by kernel_rfl
theorem ag_122 : aggB Tryz.prog 122 6 = true := by kernel_rfl
theorem ag_127 : aggB Tryz.prog 127 3 = true := by kernel_rfl
theorem ag_130 : aggB Tryz.prog 130 20 = true := by kernel_rfl
theorem ag_143 : aggB Tryz.prog 143 2 = true := by kernel_rfl
theorem ag_152 : aggB Tryz.prog 152 3 = true := by kernel_rfl
theorem ag_157 : aggB Tryz.prog 157 2 = true := by kernel_rfl
theorem ag_163 : aggB Tryz.prog 163 4 = true := by kernel_rfl
theorem ag_167 : aggB Tryz.prog 167 4 = true := by kernel_rfl
theorem ag_174 : aggB Tryz.prog 174 1 = true := by kernel_rfl
theorem ag_176 : aggB Tryz.prog 176 6 = true := by kernel_rfl
theorem ag_181 : aggB Tryz.prog 181 6 = true := by kernel_rfl
theorem ag_182 : aggB Tryz.prog 182 4 = true := by kernel_rfl
theorem ag_184 : aggB Tryz.prog 184 6 = true := by kernel_rfl
theorem ag_187 : aggB Tryz.prog 187 2 = true := by kernel_rfl
theorem ag_193 : aggB Tryz.prog 193 2 = true := by kernel_rfl
theorem ag_198 : aggB Tryz.prog 198 3 = true := by kernel_rfl
theorem ag_201 : aggB Tryz.prog 201 2 = true := by kernel_rfl
theorem ag_212 : aggB Tryz.prog 212 2 = true := by kernel_rfl
theorem ag_214 : aggB Tryz.prog 214 2 = true := by kernel_rfl
theorem ag_220 : aggB Tryz.prog 220 0 = true := by kernel_rfl
theorem ar_122 : arrB Tryz.prog 122 6 3 1 = true := by kernel_rfl
theorem ar_130 : arrB Tryz.prog 130 20 5 1 = true := by kernel_rfl
theorem ar_157 : arrB Tryz.prog 157 2 5 1 = true := by kernel_rfl
theorem ar_176 : arrB Tryz.prog 176 6 21 1 = true := by kernel_rfl
theorem ar_181 : arrB Tryz.prog 181 6 4 1 = true := by kernel_rfl
theorem ar_182 : arrB Tryz.prog 182 4 3 1 = true := by kernel_rfl
theorem bb_3 : ((Tryz.prog.info? 3).any fun i => Nat.ble i.bytes 1000) = true := by kernel_rfl
theorem bb_5 : ((Tryz.prog.info? 5).any fun i => Nat.ble i.bytes 1000) = true := by kernel_rfl
theorem bb_9 : ((Tryz.prog.info? 9).any fun i => Nat.ble i.bytes 1000) = true := by kernel_rfl
theorem bb_21 : ((Tryz.prog.info? 21).any fun i => Nat.ble i.bytes 1000) = true := by kernel_rfl
theorem bb_26 : ((Tryz.prog.info? 26).any fun i => Nat.ble i.bytes 1000) = true := by kernel_rfl
theorem bb_30 : ((Tryz.prog.info? 30).any fun i => Nat.ble i.bytes 1000) = true := by kernel_rfl
theorem bb_94 : ((Tryz.prog.info? 94).any fun i => Nat.ble i.bytes 1000) = true := by kernel_rfl
theorem bb_100 : ((Tryz.prog.info? 100).any fun i => Nat.ble i.bytes 1000) = true := by kernel_rfl
theorem bb_104 : ((Tryz.prog.info? 104).any fun i => Nat.ble i.bytes 1000) = true := by kernel_rfl
theorem bb_110 : ((Tryz.prog.info? 110).any fun i => Nat.ble i.bytes 1000) = true := by kernel_rfl
theorem bb_117 : ((Tryz.prog.info? 117).any fun i => Nat.ble i.bytes 1000) = true := by kernel_rfl
theorem bb_127 : ((Tryz.prog.info? 127).any fun i => Nat.ble i.bytes 1000) = true := by kernel_rfl
theorem bb_177 : ((Tryz.prog.info? 177).any fun i => Nat.ble i.bytes 1000) = true := by kernel_rfl
theorem bb_184 : ((Tryz.prog.info? 184).any fun i => Nat.ble i.bytes 1000) = true := by kernel_rfl
theorem bb_195 : ((Tryz.prog.info? 195).any fun i => Nat.ble i.bytes 1000) = true := by kernel_rfl
theorem bb_198 : ((Tryz.prog.info? 198).any fun i => Nat.ble i.bytes 1000) = true := by kernel_rfl
theorem bb_201 : ((Tryz.prog.info? 201).any fun i => Nat.ble i.bytes 1000) = true := by kernel_rfl
theorem bld_28_0_1_2 {x0 : Option Addr} {x1 : Option Addr} {x2 : Option Addr} : Tryz.prog.built 28 [(0, .pointer x0), (1, .pointer x1), (2, .pointer x2)] = some #[.pointer x0, .pointer x1, .pointer x2] := by kernel_rfl
theorem bld_49_0 {x0 : Option Addr} : Tryz.prog.built 49 [(0, .pointer x0)] = some #[.pointer x0, .bool false, S [], .int .i64 0, .int .i64 0, .slice none 0 0, .int .i64 0, .int .i64 0, .int .i64 0] := by kernel_rfl
theorem bld_62  : Tryz.prog.built 62 [] = some #[.slice none 0 0, .slice none 0 0] := by kernel_rfl
theorem bld_69_0_1_2_3_4_5 {x0 : Option Addr} {x0n x0c : Nat} {x1 : Option Addr} {x1n x1c : Nat} {x2 : Option Addr} {x2n x2c : Nat} {x3 : Option Addr} {x3n x3c : Nat} {x4 : Option Addr} {x4n x4c : Nat} {x5 : Option Addr} {x5n x5c : Nat} : Tryz.prog.built 69 [(0, .slice x0 x0n x0c), (1, .slice x1 x1n x1c), (2, .slice x2 x2n x2c), (3, .slice x3 x3n x3c), (4, .slice x4 x4n x4c), (5, .slice x5 x5n x5c)] = some #[.slice x0 x0n x0c, .slice x1 x1n x1c, .slice x2 x2n x2c, .slice x3 x3n x3c, .slice x4 x4n x4c, .slice x5 x5n x5c] := by kernel_rfl
theorem bld_74_1_2_3 {x1 : Option Nat} {x2 : Option Nat} {x3 : Option Nat} : Tryz.prog.built 74 [(1, .map x1), (2, .map x2), (3, .map x3)] = some #[.slice none 0 0, .map x1, .map x2, .map x3] := by kernel_rfl
theorem bld_82_0_1_8 {x0 : Option Addr} {x1 : Option Addr} {x8 : Int} : Tryz.prog.built 82 [(0, .pointer x0), (1, .pointer x1), (8, .int .i64 x8)] = some #[.pointer x0, .pointer x1, .bool false, S [], .int .i64 0, .int .i64 0, .int .i64 0, .int .i64 0, .int .i64 x8, .slice none 0 0, .slice none 0 0, .slice none 0 0] := by kernel_rfl
theorem bld_84  : Tryz.prog.built 84 [] = some #[.slice none 0 0, .slice none 0 0] := by kernel_rfl
theorem bld_94_0_1_2 {x0 : Int} {x1 : Int} {x2 : Int} : Tryz.prog.built 94 [(0, .int .i64 x0), (1, .int .i64 x1), (2, .int .i64 x2)] = some #[.int .i64 x0, .int .i64 x1, .int .i64 x2, S []] := by kernel_rfl
theorem bld_94_1_2_3 {x1 : Int} {x2 : Int} {x3 : ByteArray} : Tryz.prog.built 94 [(1, .int .i64 x1), (2, .int .i64 x2), (3, .string x3)] = some #[.int .i64 0, .int .i64 x1, .int .i64 x2, .string x3] := by kernel_rfl
theorem bld_100_0_1_2_3_4 {x0 : Int} {x1 : Int} {x2 : ByteArray} {x3 : Int} {x4 : Int} : Tryz.prog.built 100 [(0, .int .i64 x0), (1, .int .i64 x1), (2, .string x2), (3, .int .i64 x3), (4, .int .i64 x4)] = some #[.int .i64 x0, .int .i64 x1, .string x2, .int .i64 x3, .int .i64 x4] := by kernel_rfl
theorem bld_117_0_1_2 {x0 : Int} {x1 : Int} {x2 : Int} : Tryz.prog.built 117 [(0, .int .i64 x0), (1, .int .i64 x1), (2, .int .i64 x2)] = some #[.int .i64 x0, .int .i64 x1, .int .i64 x2] := by kernel_rfl
theorem bld_121  : Tryz.prog.built 121 [] = some #[.slice none 0 0, .slice none 0 0, .slice none 0 0] := by kernel_rfl
theorem bld_122_0_1_2_3_4_5 {x0 : Int} {x1 : Int} {x2 : Int} {x3 : Int} {x4 : Int} {x5 : Int} : Tryz.prog.built 122 [(0, .int .i64 x0), (1, .int .i64 x1), (2, .int .i64 x2), (3, .int .i64 x3), (4, .int .i64 x4), (5, .int .i64 x5)] = some #[.int .i64 x0, .int .i64 x1, .int .i64 x2, .int .i64 x3, .int .i64 x4, .int .i64 x5] := by kernel_rfl
theorem bld_127_0_1_2 {x0 : Int} {x1 : Int} {x2 : Int} : Tryz.prog.built 127 [(0, .int .i64 x0), (1, .int .i64 x1), (2, .int .i64 x2)] = some #[.int .i64 x0, .int .i64 x1, .int .i64 x2] := by kernel_rfl
theorem bld_143_0_1 {x0 : Option Addr} {x0n x0c : Nat} {x1 : Option Nat} : Tryz.prog.built 143 [(0, .slice x0 x0n x0c), (1, .map x1)] = some #[.slice x0 x0n x0c, .map x1] := by kernel_rfl
theorem bld_152_0_2 {x0 : ByteArray} {x2 : Option Nat} : Tryz.prog.built 152 [(0, .string x0), (2, .map x2)] = some #[.string x0, .int .i64 0, .map x2] := by kernel_rfl
theorem bld_157  : Tryz.prog.built 157 [] = some #[.int .u8 0, .int .u8 0] := by kernel_rfl
theorem bld_157_0_1 {x0 : Int} {x1 : Int} : Tryz.prog.built 157 [(0, .int .u8 x0), (1, .int .u8 x1)] = some #[.int .u8 x0, .int .u8 x1] := by kernel_rfl
theorem bld_163_0_1 {x00 : Int} {x01 : Int} {x10 : Int} {x11 : Int} : Tryz.prog.built 163 [(0, .agg #[.int .u8 x00, .int .u8 x01]), (1, .agg #[.int .u8 x10, .int .u8 x11])] = some #[.int .u8 x00, .int .u8 x01, .int .u8 x10, .int .u8 x11] := by kernel_rfl
theorem bld_167_0 {x0 : ByteArray} : Tryz.prog.built 167 [(0, .string x0)] = some #[.string x0, .int .i64 0, S [], .bool false] := by kernel_rfl
theorem bld_174_0 {x0 : Option Addr} : Tryz.prog.built 174 [(0, .pointer x0)] = some #[.pointer x0] := by kernel_rfl
theorem bld_184_0 {x0 : ByteArray} : Tryz.prog.built 184 [(0, .string x0)] = some #[.string x0, .int .i64 0, .int .i64 0, .int .i64 0, .int .i64 0, .int .i64 0] := by kernel_rfl
theorem bld_184_1 {x1 : Int} : Tryz.prog.built 184 [(1, .int .i64 x1)] = some #[S [], .int .i64 x1, .int .i64 0, .int .i64 0, .int .i64 0, .int .i64 0] := by kernel_rfl
theorem bld_187  : Tryz.prog.built 187 [] = some #[S [], .slice none 0 0] := by kernel_rfl
theorem bld_193_0 {x0 : Int} : Tryz.prog.built 193 [(0, .int .u8 x0)] = some #[.int .u8 x0, .slice none 0 0] := by kernel_rfl
theorem bld_198_0_1_2 {x0 : Int} {x1 : Int} {x2 : Int} : Tryz.prog.built 198 [(0, .int .i32 x0), (1, .int .i32 x1), (2, .int .i32 x2)] = some #[.int .i32 x0, .int .i32 x1, .int .i32 x2] := by kernel_rfl
theorem bld_201_0_1 {x0 : Int} {x1 : Int} : Tryz.prog.built 201 [(0, .int .i32 x0), (1, .int .i32 x1)] = some #[.int .i32 x0, .int .i32 x1] := by kernel_rfl
theorem bld_212_0_1 {x0 : Int} {x1 : ByteArray} : Tryz.prog.built 212 [(0, .int .i64 x0), (1, .string x1)] = some #[.int .i64 x0, .string x1] := by kernel_rfl
theorem bld_214_0_1 {x0 : Int} {x1 : Int} : Tryz.prog.built 214 [(0, .int .u8 x0), (1, .int .i64 x1)] = some #[.int .u8 x0, .int .i64 x1] := by kernel_rfl
theorem bld_220  : Tryz.prog.built 220 [] = some #[] := by kernel_rfl
theorem by_3 : ((Tryz.prog.info? 3).any fun i => i.bytes == 8) = true := by kernel_rfl
theorem by_5 : ((Tryz.prog.info? 5).any fun i => i.bytes == 1) = true := by kernel_rfl
theorem by_9 : ((Tryz.prog.info? 9).any fun i => i.bytes == 16) = true := by kernel_rfl
theorem by_21 : ((Tryz.prog.info? 21).any fun i => i.bytes == 4) = true := by kernel_rfl
theorem by_26 : ((Tryz.prog.info? 26).any fun i => i.bytes == 8) = true := by kernel_rfl
theorem by_30 : ((Tryz.prog.info? 30).any fun i => i.bytes == 8) = true := by kernel_rfl
theorem by_94 : ((Tryz.prog.info? 94).any fun i => i.bytes == 40) = true := by kernel_rfl
theorem by_100 : ((Tryz.prog.info? 100).any fun i => i.bytes == 48) = true := by kernel_rfl
theorem by_104 : ((Tryz.prog.info? 104).any fun i => i.bytes == 8) = true := by kernel_rfl
theorem by_110 : ((Tryz.prog.info? 110).any fun i => i.bytes == 1) = true := by kernel_rfl
theorem by_117 : ((Tryz.prog.info? 117).any fun i => i.bytes == 24) = true := by kernel_rfl
theorem by_127 : ((Tryz.prog.info? 127).any fun i => i.bytes == 24) = true := by kernel_rfl
theorem by_177 : ((Tryz.prog.info? 177).any fun i => i.bytes == 1) = true := by kernel_rfl
theorem by_184 : ((Tryz.prog.info? 184).any fun i => i.bytes == 56) = true := by kernel_rfl
theorem by_195 : ((Tryz.prog.info? 195).any fun i => i.bytes == 16) = true := by kernel_rfl
theorem by_198 : ((Tryz.prog.info? 198).any fun i => i.bytes == 12) = true := by kernel_rfl
theorem by_201 : ((Tryz.prog.info? 201).any fun i => i.bytes == 8) = true := by kernel_rfl
theorem en_5 : Enters Tryz.prog 5 := enters_of Tryz.func5 (by kernel_rfl) (by kernel_rfl)
theorem en_6 : Enters Tryz.prog 6 := enters_of Tryz.func6 (by kernel_rfl) (by kernel_rfl)
theorem en_7 : Enters Tryz.prog 7 := enters_of Tryz.func7 (by kernel_rfl) (by kernel_rfl)
theorem en_8 : Enters Tryz.prog 8 := enters_of Tryz.func8 (by kernel_rfl) (by kernel_rfl)
theorem en_9 : Enters Tryz.prog 9 := enters_of Tryz.func9 (by kernel_rfl) (by kernel_rfl)
theorem en_10 : Enters Tryz.prog 10 := enters_of Tryz.func10 (by kernel_rfl) (by kernel_rfl)
theorem en_11 : Enters Tryz.prog 11 := enters_of Tryz.func11 (by kernel_rfl) (by kernel_rfl)
theorem en_12 : Enters Tryz.prog 12 := enters_of Tryz.func12 (by kernel_rfl) (by kernel_rfl)
theorem en_13 : Enters Tryz.prog 13 := enters_of Tryz.func13 (by kernel_rfl) (by kernel_rfl)
theorem en_14 : Enters Tryz.prog 14 := enters_of Tryz.func14 (by kernel_rfl) (by kernel_rfl)
theorem en_15 : Enters Tryz.prog 15 := enters_of Tryz.func15 (by kernel_rfl) (by kernel_rfl)
theorem en_16 : Enters Tryz.prog 16 := enters_of Tryz.func16 (by kernel_rfl) (by kernel_rfl)
theorem en_17 : Enters Tryz.prog 17 := enters_of Tryz.func17 (by kernel_rfl) (by kernel_rfl)
theorem en_18 : Enters Tryz.prog 18 := enters_of Tryz.func18 (by kernel_rfl) (by kernel_rfl)
theorem en_19 : Enters Tryz.prog 19 := enters_of Tryz.func19 (by kernel_rfl) (by kernel_rfl)
theorem en_20 : Enters Tryz.prog 20 := enters_of Tryz.func20 (by kernel_rfl) (by kernel_rfl)
theorem en_21 : Enters Tryz.prog 21 := enters_of Tryz.func21 (by kernel_rfl) (by kernel_rfl)
theorem en_22 : Enters Tryz.prog 22 := enters_of Tryz.func22 (by kernel_rfl) (by kernel_rfl)
theorem en_23 : Enters Tryz.prog 23 := enters_of Tryz.func23 (by kernel_rfl) (by kernel_rfl)
theorem en_24 : Enters Tryz.prog 24 := enters_of Tryz.func24 (by kernel_rfl) (by kernel_rfl)
theorem en_25 : Enters Tryz.prog 25 := enters_of Tryz.func25 (by kernel_rfl) (by kernel_rfl)
theorem en_26 : Enters Tryz.prog 26 := enters_of Tryz.func26 (by kernel_rfl) (by kernel_rfl)
theorem en_27 : Enters Tryz.prog 27 := enters_of Tryz.func27 (by kernel_rfl) (by kernel_rfl)
theorem en_28 : Enters Tryz.prog 28 := enters_of Tryz.func28 (by kernel_rfl) (by kernel_rfl)
theorem en_29 : Enters Tryz.prog 29 := enters_of Tryz.func29 (by kernel_rfl) (by kernel_rfl)
theorem en_30 : Enters Tryz.prog 30 := enters_of Tryz.func30 (by kernel_rfl) (by kernel_rfl)
theorem en_31 : Enters Tryz.prog 31 := enters_of Tryz.func31 (by kernel_rfl) (by kernel_rfl)
theorem en_32 : Enters Tryz.prog 32 := enters_of Tryz.func32 (by kernel_rfl) (by kernel_rfl)
theorem en_33 : Enters Tryz.prog 33 := enters_of Tryz.func33 (by kernel_rfl) (by kernel_rfl)
theorem en_34 : Enters Tryz.prog 34 := enters_of Tryz.func34 (by kernel_rfl) (by kernel_rfl)
theorem en_35 : Enters Tryz.prog 35 := enters_of Tryz.func35 (by kernel_rfl) (by kernel_rfl)
theorem en_36 : Enters Tryz.prog 36 := enters_of Tryz.func36 (by kernel_rfl) (by kernel_rfl)
theorem en_37 : Enters Tryz.prog 37 := enters_of Tryz.func37 (by kernel_rfl) (by kernel_rfl)
theorem en_38 : Enters Tryz.prog 38 := enters_of Tryz.func38 (by kernel_rfl) (by kernel_rfl)
theorem en_39 : Enters Tryz.prog 39 := enters_of Tryz.func39 (by kernel_rfl) (by kernel_rfl)
theorem en_40 : Enters Tryz.prog 40 := enters_of Tryz.func40 (by kernel_rfl) (by kernel_rfl)
theorem en_41 : Enters Tryz.prog 41 := enters_of Tryz.func41 (by kernel_rfl) (by kernel_rfl)
theorem en_42 : Enters Tryz.prog 42 := enters_of Tryz.func42 (by kernel_rfl) (by kernel_rfl)
theorem en_43 : Enters Tryz.prog 43 := enters_of Tryz.func43 (by kernel_rfl) (by kernel_rfl)
theorem en_44 : Enters Tryz.prog 44 := enters_of Tryz.func44 (by kernel_rfl) (by kernel_rfl)
theorem en_45 : Enters Tryz.prog 45 := enters_of Tryz.func45 (by kernel_rfl) (by kernel_rfl)
theorem en_46 : Enters Tryz.prog 46 := enters_of Tryz.func46 (by kernel_rfl) (by kernel_rfl)
theorem en_47 : Enters Tryz.prog 47 := enters_of Tryz.func47 (by kernel_rfl) (by kernel_rfl)
theorem en_48 : Enters Tryz.prog 48 := enters_of Tryz.func48 (by kernel_rfl) (by kernel_rfl)
theorem en_49 : Enters Tryz.prog 49 := enters_of Tryz.func49 (by kernel_rfl) (by kernel_rfl)
theorem en_50 : Enters Tryz.prog 50 := enters_of Tryz.func50 (by kernel_rfl) (by kernel_rfl)
theorem en_51 : Enters Tryz.prog 51 := enters_of Tryz.func51 (by kernel_rfl) (by kernel_rfl)
theorem en_52 : Enters Tryz.prog 52 := enters_of Tryz.func52 (by kernel_rfl) (by kernel_rfl)
theorem en_53 : Enters Tryz.prog 53 := enters_of Tryz.func53 (by kernel_rfl) (by kernel_rfl)
theorem en_54 : Enters Tryz.prog 54 := enters_of Tryz.func54 (by kernel_rfl) (by kernel_rfl)
theorem en_55 : Enters Tryz.prog 55 := enters_of Tryz.func55 (by kernel_rfl) (by kernel_rfl)
theorem en_56 : Enters Tryz.prog 56 := enters_of Tryz.func56 (by kernel_rfl) (by kernel_rfl)
theorem en_57 : Enters Tryz.prog 57 := enters_of Tryz.func57 (by kernel_rfl) (by kernel_rfl)
theorem en_58 : Enters Tryz.prog 58 := enters_of Tryz.func58 (by kernel_rfl) (by kernel_rfl)
theorem en_59 : Enters Tryz.prog 59 := enters_of Tryz.func59 (by kernel_rfl) (by kernel_rfl)
theorem en_60 : Enters Tryz.prog 60 := enters_of Tryz.func60 (by kernel_rfl) (by kernel_rfl)
theorem en_61 : Enters Tryz.prog 61 := enters_of Tryz.func61 (by kernel_rfl) (by kernel_rfl)
theorem en_62 : Enters Tryz.prog 62 := enters_of Tryz.func62 (by kernel_rfl) (by kernel_rfl)
theorem en_63 : Enters Tryz.prog 63 := enters_of Tryz.func63 (by kernel_rfl) (by kernel_rfl)
theorem en_64 : Enters Tryz.prog 64 := enters_of Tryz.func64 (by kernel_rfl) (by kernel_rfl)
theorem en_65 : Enters Tryz.prog 65 := enters_of Tryz.func65 (by kernel_rfl) (by kernel_rfl)
theorem en_66 : Enters Tryz.prog 66 := enters_of Tryz.func66 (by kernel_rfl) (by kernel_rfl)
theorem en_67 : Enters Tryz.prog 67 := enters_of Tryz.func67 (by kernel_rfl) (by kernel_rfl)
theorem en_68 : Enters Tryz.prog 68 := enters_of Tryz.func68 (by kernel_rfl) (by kernel_rfl)
theorem en_69 : Enters Tryz.prog 69 := enters_of Tryz.func69 (by kernel_rfl) (by kernel_rfl)
theorem en_70 : Enters Tryz.prog 70 := enters_of Tryz.func70 (by kernel_rfl) (by kernel_rfl)
theorem en_71 : Enters Tryz.prog 71 := enters_of Tryz.func71 (by kernel_rfl) (by kernel_rfl)
theorem en_72 : Enters Tryz.prog 72 := enters_of Tryz.func72 (by kernel_rfl) (by kernel_rfl)
theorem en_73 : Enters Tryz.prog 73 := enters_of Tryz.func73 (by kernel_rfl) (by kernel_rfl)
theorem en_74 : Enters Tryz.prog 74 := enters_of Tryz.func74 (by kernel_rfl) (by kernel_rfl)
theorem en_75 : Enters Tryz.prog 75 := enters_of Tryz.func75 (by kernel_rfl) (by kernel_rfl)
theorem en_76 : Enters Tryz.prog 76 := enters_of Tryz.func76 (by kernel_rfl) (by kernel_rfl)
theorem en_77 : Enters Tryz.prog 77 := enters_of Tryz.func77 (by kernel_rfl) (by kernel_rfl)
theorem en_78 : Enters Tryz.prog 78 := enters_of Tryz.func78 (by kernel_rfl) (by kernel_rfl)
theorem en_79 : Enters Tryz.prog 79 := enters_of Tryz.func79 (by kernel_rfl) (by kernel_rfl)
theorem en_80 : Enters Tryz.prog 80 := enters_of Tryz.func80 (by kernel_rfl) (by kernel_rfl)
theorem en_81 : Enters Tryz.prog 81 := enters_of Tryz.func81 (by kernel_rfl) (by kernel_rfl)
theorem en_82 : Enters Tryz.prog 82 := enters_of Tryz.func82 (by kernel_rfl) (by kernel_rfl)
theorem en_83 : Enters Tryz.prog 83 := enters_of Tryz.func83 (by kernel_rfl) (by kernel_rfl)
theorem en_84 : Enters Tryz.prog 84 := enters_of Tryz.func84 (by kernel_rfl) (by kernel_rfl)
theorem en_85 : Enters Tryz.prog 85 := enters_of Tryz.func85 (by kernel_rfl) (by kernel_rfl)
theorem en_86 : Enters Tryz.prog 86 := enters_of Tryz.func86 (by kernel_rfl) (by kernel_rfl)
theorem en_87 : Enters Tryz.prog 87 := enters_of Tryz.func87 (by kernel_rfl) (by kernel_rfl)
theorem en_88 : Enters Tryz.prog 88 := enters_of Tryz.func88 (by kernel_rfl) (by kernel_rfl)
theorem en_90 : Enters Tryz.prog 90 := enters_of Tryz.func90 (by kernel_rfl) (by kernel_rfl)
theorem en_91 : Enters Tryz.prog 91 := enters_of Tryz.func91 (by kernel_rfl) (by kernel_rfl)
theorem en_92 : Enters Tryz.prog 92 := enters_of Tryz.func92 (by kernel_rfl) (by kernel_rfl)
theorem en_93 : Enters Tryz.prog 93 := enters_of Tryz.func93 (by kernel_rfl) (by kernel_rfl)
theorem en_94 : Enters Tryz.prog 94 := enters_of Tryz.func94 (by kernel_rfl) (by kernel_rfl)
theorem en_95 : Enters Tryz.prog 95 := enters_of Tryz.func95 (by kernel_rfl) (by kernel_rfl)
theorem en_96 : Enters Tryz.prog 96 := enters_of Tryz.func96 (by kernel_rfl) (by kernel_rfl)
theorem en_97 : Enters Tryz.prog 97 := enters_of Tryz.func97 (by kernel_rfl) (by kernel_rfl)
theorem en_98 : Enters Tryz.prog 98 := enters_of Tryz.func98 (by kernel_rfl) (by kernel_rfl)
theorem en_99 : Enters Tryz.prog 99 := enters_of Tryz.func99 (by kernel_rfl) (by kernel_rfl)
theorem en_100 : Enters Tryz.prog 100 := enters_of Tryz.func100 (by kernel_rfl) (by kernel_rfl)
theorem en_101 : Enters Tryz.prog 101 := enters_of Tryz.func101 (by kernel_rfl) (by kernel_rfl)
theorem en_102 : Enters Tryz.prog 102 := enters_of Tryz.func102 (by kernel_rfl) (by kernel_rfl)
theorem en_103 : Enters Tryz.prog 103 := enters_of Tryz.func103 (by kernel_rfl) (by kernel_rfl)
theorem en_104 : Enters Tryz.prog 104 := enters_of Tryz.func104 (by kernel_rfl) (by kernel_rfl)
theorem en_105 : Enters Tryz.prog 105 := enters_of Tryz.func105 (by kernel_rfl) (by kernel_rfl)
theorem en_106 : Enters Tryz.prog 106 := enters_of Tryz.func106 (by kernel_rfl) (by kernel_rfl)
theorem en_107 : Enters Tryz.prog 107 := enters_of Tryz.func107 (by kernel_rfl) (by kernel_rfl)
theorem en_108 : Enters Tryz.prog 108 := enters_of Tryz.func108 (by kernel_rfl) (by kernel_rfl)
theorem en_109 : Enters Tryz.prog 109 := enters_of Tryz.func109 (by kernel_rfl) (by kernel_rfl)
theorem en_110 : Enters Tryz.prog 110 := enters_of Tryz.func110 (by kernel_rfl) (by kernel_rfl)
theorem en_111 : Enters Tryz.prog 111 := enters_of Tryz.func111 (by kernel_rfl) (by kernel_rfl)
theorem en_112 : Enters Tryz.prog 112 := enters_of Tryz.func112 (by kernel_rfl) (by kernel_rfl)
theorem en_113 : Enters Tryz.prog 113 := enters_of Tryz.func113 (by kernel_rfl) (by kernel_rfl)
theorem en_114 : Enters Tryz.prog 114 := enters_of Tryz.func114 (by kernel_rfl) (by kernel_rfl)
theorem en_115 : Enters Tryz.prog 115 := enters_of Tryz.func115 (by kernel_rfl) (by kernel_rfl)
theorem en_116 : Enters Tryz.prog 116 := enters_of Tryz.func116 (by kernel_rfl) (by kernel_rfl)
theorem en_117 : Enters Tryz.prog 117 := enters_of Tryz.func117 (by kernel_rfl) (by kernel_rfl)
theorem en_118 : Enters Tryz.prog 118 := enters_of Tryz.func118 (by kernel_rfl) (by kernel_rfl)
theorem en_119 : Enters Tryz.prog 119 := enters_of Tryz.func119 (by kernel_rfl) (by kernel_rfl)
theorem en_120 : Enters Tryz.prog 120 := enters_of Tryz.func120 (by kernel_rfl) (by kernel_rfl)
theorem en_122 : Enters Tryz.prog 122 := enters_of Tryz.func122 (by kernel_rfl) (by kernel_rfl)
theorem en_123 : Enters Tryz.prog 123 := enters_of Tryz.func123 (by kernel_rfl) (by kernel_rfl)
theorem en_124 : Enters Tryz.prog 124 := enters_of Tryz.func124 (by kernel_rfl) (by kernel_rfl)
theorem fo_28_2 : foffB Tryz.prog 28 2 2 = true := by kernel_rfl
theorem fo_49_0 : foffB Tryz.prog 49 0 0 = true := by kernel_rfl
theorem fo_49_1 : foffB Tryz.prog 49 1 1 = true := by kernel_rfl
theorem fo_49_2 : foffB Tryz.prog 49 2 2 = true := by kernel_rfl
theorem fo_49_3 : foffB Tryz.prog 49 3 3 = true := by kernel_rfl
theorem fo_49_4 : foffB Tryz.prog 49 4 4 = true := by kernel_rfl
theorem fo_49_5 : foffB Tryz.prog 49 5 5 = true := by kernel_rfl
theorem fo_49_6 : foffB Tryz.prog 49 6 6 = true := by kernel_rfl
theorem fo_49_7 : foffB Tryz.prog 49 7 7 = true := by kernel_rfl
theorem fo_49_8 : foffB Tryz.prog 49 8 8 = true := by kernel_rfl
theorem fo_57_0 : foffB Tryz.prog 57 0 0 = true := by kernel_rfl
theorem fo_57_1 : foffB Tryz.prog 57 1 1 = true := by kernel_rfl
theorem fo_57_2 : foffB Tryz.prog 57 2 2 = true := by kernel_rfl
theorem fo_57_4 : foffB Tryz.prog 57 4 4 = true := by kernel_rfl
theorem fo_57_5 : foffB Tryz.prog 57 5 5 = true := by kernel_rfl
theorem fo_62_0 : foffB Tryz.prog 62 0 0 = true := by kernel_rfl
theorem fo_62_1 : foffB Tryz.prog 62 1 1 = true := by kernel_rfl
theorem fo_69_0 : foffB Tryz.prog 69 0 0 = true := by kernel_rfl
theorem fo_69_1 : foffB Tryz.prog 69 1 1 = true := by kernel_rfl
theorem fo_69_2 : foffB Tryz.prog 69 2 2 = true := by kernel_rfl
theorem fo_69_3 : foffB Tryz.prog 69 3 3 = true := by kernel_rfl
theorem fo_69_4 : foffB Tryz.prog 69 4 4 = true := by kernel_rfl
theorem fo_69_5 : foffB Tryz.prog 69 5 5 = true := by kernel_rfl
theorem fo_74_0 : foffB Tryz.prog 74 0 0 = true := by kernel_rfl
theorem fo_74_1 : foffB Tryz.prog 74 1 1 = true := by kernel_rfl
theorem fo_74_2 : foffB Tryz.prog 74 2 2 = true := by kernel_rfl
theorem fo_74_3 : foffB Tryz.prog 74 3 3 = true := by kernel_rfl
theorem fo_77_0 : foffB Tryz.prog 77 0 0 = true := by kernel_rfl
theorem fo_80_0 : foffB Tryz.prog 80 0 0 = true := by kernel_rfl
theorem fo_82_0 : foffB Tryz.prog 82 0 0 = true := by kernel_rfl
theorem fo_82_1 : foffB Tryz.prog 82 1 1 = true := by kernel_rfl
theorem fo_82_2 : foffB Tryz.prog 82 2 2 = true := by kernel_rfl
theorem fo_82_3 : foffB Tryz.prog 82 3 3 = true := by kernel_rfl
theorem fo_82_4 : foffB Tryz.prog 82 4 4 = true := by kernel_rfl
theorem fo_82_5 : foffB Tryz.prog 82 5 5 = true := by kernel_rfl
theorem fo_82_6 : foffB Tryz.prog 82 6 6 = true := by kernel_rfl
theorem fo_82_7 : foffB Tryz.prog 82 7 7 = true := by kernel_rfl
theorem fo_82_8 : foffB Tryz.prog 82 8 8 = true := by kernel_rfl
theorem fo_82_9 : foffB Tryz.prog 82 9 9 = true := by kernel_rfl
theorem fo_82_10 : foffB Tryz.prog 82 10 10 = true := by kernel_rfl
theorem fo_82_11 : foffB Tryz.prog 82 11 11 = true := by kernel_rfl
theorem fo_84_0 : foffB Tryz.prog 84 0 0 = true := by kernel_rfl
theorem fo_84_1 : foffB Tryz.prog 84 1 1 = true := by kernel_rfl
theorem fo_94_0 : foffB Tryz.prog 94 0 0 = true := by kernel_rfl
theorem fo_94_1 : foffB Tryz.prog 94 1 1 = true := by kernel_rfl
theorem fo_94_2 : foffB Tryz.prog 94 2 2 = true := by kernel_rfl
theorem fo_94_3 : foffB Tryz.prog 94 3 3 = true := by kernel_rfl
theorem fo_100_0 : foffB Tryz.prog 100 0 0 = true := by kernel_rfl
theorem fo_100_1 : foffB Tryz.prog 100 1 1 = true := by kernel_rfl
theorem fo_100_2 : foffB Tryz.prog 100 2 2 = true := by kernel_rfl
theorem fo_100_3 : foffB Tryz.prog 100 3 3 = true := by kernel_rfl
theorem fo_100_4 : foffB Tryz.prog 100 4 4 = true := by kernel_rfl
theorem fo_117_0 : foffB Tryz.prog 117 0 0 = true := by kernel_rfl
theorem fo_117_1 : foffB Tryz.prog 117 1 1 = true := by kernel_rfl
theorem fo_117_2 : foffB Tryz.prog 117 2 2 = true := by kernel_rfl
theorem fo_121_0 : foffB Tryz.prog 121 0 0 = true := by kernel_rfl
theorem fo_121_1 : foffB Tryz.prog 121 1 1 = true := by kernel_rfl
theorem fo_121_2 : foffB Tryz.prog 121 2 2 = true := by kernel_rfl
theorem fo_127_0 : foffB Tryz.prog 127 0 0 = true := by kernel_rfl
theorem fo_127_1 : foffB Tryz.prog 127 1 1 = true := by kernel_rfl
theorem fo_127_2 : foffB Tryz.prog 127 2 2 = true := by kernel_rfl
theorem fo_143_0 : foffB Tryz.prog 143 0 0 = true := by kernel_rfl
theorem fo_143_1 : foffB Tryz.prog 143 1 1 = true := by kernel_rfl
theorem fo_152_0 : foffB Tryz.prog 152 0 0 = true := by kernel_rfl
theorem fo_152_1 : foffB Tryz.prog 152 1 1 = true := by kernel_rfl
theorem fo_152_2 : foffB Tryz.prog 152 2 2 = true := by kernel_rfl
theorem fo_163_0 : foffB Tryz.prog 163 0 0 = true := by kernel_rfl
theorem fo_167_0 : foffB Tryz.prog 167 0 0 = true := by kernel_rfl
theorem fo_167_1 : foffB Tryz.prog 167 1 1 = true := by kernel_rfl
theorem fo_167_2 : foffB Tryz.prog 167 2 2 = true := by kernel_rfl
theorem fo_167_3 : foffB Tryz.prog 167 3 3 = true := by kernel_rfl
theorem fo_174_0 : foffB Tryz.prog 174 0 0 = true := by kernel_rfl
theorem fo_184_0 : foffB Tryz.prog 184 0 0 = true := by kernel_rfl
theorem fo_184_1 : foffB Tryz.prog 184 1 1 = true := by kernel_rfl
theorem fo_184_2 : foffB Tryz.prog 184 2 2 = true := by kernel_rfl
theorem fo_187_0 : foffB Tryz.prog 187 0 0 = true := by kernel_rfl
theorem fo_187_1 : foffB Tryz.prog 187 1 1 = true := by kernel_rfl
theorem fo_193_0 : foffB Tryz.prog 193 0 0 = true := by kernel_rfl
theorem fo_193_1 : foffB Tryz.prog 193 1 1 = true := by kernel_rfl
theorem fo_198_0 : foffB Tryz.prog 198 0 0 = true := by kernel_rfl
theorem fo_198_1 : foffB Tryz.prog 198 1 1 = true := by kernel_rfl
theorem fo_198_2 : foffB Tryz.prog 198 2 2 = true := by kernel_rfl
theorem fo_201_0 : foffB Tryz.prog 201 0 0 = true := by kernel_rfl
theorem fo_201_1 : foffB Tryz.prog 201 1 1 = true := by kernel_rfl
theorem fo_214_0 : foffB Tryz.prog 214 0 0 = true := by kernel_rfl
theorem fo_214_1 : foffB Tryz.prog 214 1 1 = true := by kernel_rfl
theorem in_3 : intB Tryz.prog 3 .i64 = true := by kernel_rfl
theorem in_5 : intB Tryz.prog 5 .u8 = true := by kernel_rfl
theorem in_21 : intB Tryz.prog 21 .i32 = true := by kernel_rfl
theorem in_47 : intB Tryz.prog 47 .i64 = true := by kernel_rfl
theorem in_110 : intB Tryz.prog 110 .i8 = true := by kernel_rfl
theorem in_177 : intB Tryz.prog 177 .i8 = true := by kernel_rfl
theorem pt_104 : Tryz.prog.underlying 104 = some (.pointer (Tryz.prog.pointee 104)) := by kernel_rfl
theorem pt_131 : Tryz.prog.underlying 131 = some (.pointer (Tryz.prog.pointee 131)) := by kernel_rfl
theorem pt_132 : Tryz.prog.underlying 132 = some (.pointer (Tryz.prog.pointee 132)) := by kernel_rfl
theorem sc_3 : scalB Tryz.prog 3 = true := by kernel_rfl
theorem sc_4 : scalB Tryz.prog 4 = true := by kernel_rfl
theorem sc_5 : scalB Tryz.prog 5 = true := by kernel_rfl
theorem sc_9 : scalB Tryz.prog 9 = true := by kernel_rfl
theorem sc_21 : scalB Tryz.prog 21 = true := by kernel_rfl
theorem sc_22 : scalB Tryz.prog 22 = true := by kernel_rfl
theorem sc_24 : scalB Tryz.prog 24 = true := by kernel_rfl
theorem sc_25 : scalB Tryz.prog 25 = true := by kernel_rfl
theorem sc_26 : scalB Tryz.prog 26 = true := by kernel_rfl
theorem sc_30 : scalB Tryz.prog 30 = true := by kernel_rfl
theorem sc_38 : scalB Tryz.prog 38 = true := by kernel_rfl
theorem sc_44 : scalB Tryz.prog 44 = true := by kernel_rfl
theorem sc_46 : scalB Tryz.prog 46 = true := by kernel_rfl
theorem sc_47 : scalB Tryz.prog 47 = true := by kernel_rfl
theorem sc_59 : scalB Tryz.prog 59 = true := by kernel_rfl
theorem sc_60 : scalB Tryz.prog 60 = true := by kernel_rfl
theorem sc_64 : scalB Tryz.prog 64 = true := by kernel_rfl
theorem sc_65 : scalB Tryz.prog 65 = true := by kernel_rfl
theorem sc_66 : scalB Tryz.prog 66 = true := by kernel_rfl
theorem sc_67 : scalB Tryz.prog 67 = true := by kernel_rfl
theorem sc_70 : scalB Tryz.prog 70 = true := by kernel_rfl
theorem sc_71 : scalB Tryz.prog 71 = true := by kernel_rfl
theorem sc_72 : scalB Tryz.prog 72 = true := by kernel_rfl
theorem sc_75 : scalB Tryz.prog 75 = true := by kernel_rfl
theorem sc_78 : scalB Tryz.prog 78 = true := by kernel_rfl
theorem sc_90 : scalB Tryz.prog 90 = true := by kernel_rfl
theorem sc_104 : scalB Tryz.prog 104 = true := by kernel_rfl
theorem sc_106 : scalB Tryz.prog 106 = true := by kernel_rfl
theorem sc_110 : scalB Tryz.prog 110 = true := by kernel_rfl
theorem sc_118 : scalB Tryz.prog 118 = true := by kernel_rfl
theorem sc_119 : scalB Tryz.prog 119 = true := by kernel_rfl
theorem sc_141 : scalB Tryz.prog 141 = true := by kernel_rfl
theorem sc_150 : scalB Tryz.prog 150 = true := by kernel_rfl
theorem sc_155 : scalB Tryz.prog 155 = true := by kernel_rfl
theorem sc_159 : scalB Tryz.prog 159 = true := by kernel_rfl
theorem sc_177 : scalB Tryz.prog 177 = true := by kernel_rfl
theorem sc_190 : scalB Tryz.prog 190 = true := by kernel_rfl
theorem sc_195 : scalB Tryz.prog 195 = true := by kernel_rfl
theorem sc_202 : scalB Tryz.prog 202 = true := by kernel_rfl
theorem se_22 : selB Tryz.prog 22 9 1 = true := by kernel_rfl
theorem se_38 : selB Tryz.prog 38 57 6 = true := by kernel_rfl
theorem se_46 : selB Tryz.prog 46 94 4 = true := by kernel_rfl
theorem se_59 : selB Tryz.prog 59 26 1 = true := by kernel_rfl
theorem se_60 : selB Tryz.prog 60 30 1 = true := by kernel_rfl
theorem se_64 : selB Tryz.prog 64 177 1 = true := by kernel_rfl
theorem se_65 : selB Tryz.prog 65 21 1 = true := by kernel_rfl
theorem se_66 : selB Tryz.prog 66 5 1 = true := by kernel_rfl
theorem se_67 : selB Tryz.prog 67 198 3 = true := by kernel_rfl
theorem se_72 : selB Tryz.prog 72 104 1 = true := by kernel_rfl
theorem se_75 : selB Tryz.prog 75 117 3 = true := by kernel_rfl
theorem se_78 : selB Tryz.prog 78 100 5 = true := by kernel_rfl
theorem se_90 : selB Tryz.prog 90 127 3 = true := by kernel_rfl
theorem se_118 : selB Tryz.prog 118 184 6 = true := by kernel_rfl
theorem se_119 : selB Tryz.prog 119 3 1 = true := by kernel_rfl
theorem se_159 : selB Tryz.prog 159 110 1 = true := by kernel_rfl
theorem se_190 : selB Tryz.prog 190 195 1 = true := by kernel_rfl
theorem se_202 : selB Tryz.prog 202 201 2 = true := by kernel_rfl
theorem st_9 : strB Tryz.prog 9 = true := by kernel_rfl
theorem sz_3 : sizeB Tryz.prog 3 1 = true := by kernel_rfl
theorem sz_4 : sizeB Tryz.prog 4 1 = true := by kernel_rfl
theorem sz_5 : sizeB Tryz.prog 5 1 = true := by kernel_rfl
theorem sz_9 : sizeB Tryz.prog 9 1 = true := by kernel_rfl
theorem sz_21 : sizeB Tryz.prog 21 1 = true := by kernel_rfl
theorem sz_22 : sizeB Tryz.prog 22 1 = true := by kernel_rfl
theorem sz_24 : sizeB Tryz.prog 24 1 = true := by kernel_rfl
theorem sz_25 : sizeB Tryz.prog 25 1 = true := by kernel_rfl
theorem sz_26 : sizeB Tryz.prog 26 1 = true := by kernel_rfl
theorem sz_28 : sizeB Tryz.prog 28 3 = true := by kernel_rfl
theorem sz_30 : sizeB Tryz.prog 30 1 = true := by kernel_rfl
theorem sz_38 : sizeB Tryz.prog 38 1 = true := by kernel_rfl
theorem sz_44 : sizeB Tryz.prog 44 1 = true := by kernel_rfl
theorem sz_46 : sizeB Tryz.prog 46 1 = true := by kernel_rfl
theorem sz_47 : sizeB Tryz.prog 47 1 = true := by kernel_rfl
theorem sz_49 : sizeB Tryz.prog 49 9 = true := by kernel_rfl
theorem sz_57 : sizeB Tryz.prog 57 6 = true := by kernel_rfl
theorem sz_59 : sizeB Tryz.prog 59 1 = true := by kernel_rfl
theorem sz_60 : sizeB Tryz.prog 60 1 = true := by kernel_rfl
theorem sz_62 : sizeB Tryz.prog 62 2 = true := by kernel_rfl
theorem sz_64 : sizeB Tryz.prog 64 1 = true := by kernel_rfl
theorem sz_65 : sizeB Tryz.prog 65 1 = true := by kernel_rfl
theorem sz_66 : sizeB Tryz.prog 66 1 = true := by kernel_rfl
theorem sz_67 : sizeB Tryz.prog 67 1 = true := by kernel_rfl
theorem sz_69 : sizeB Tryz.prog 69 6 = true := by kernel_rfl
theorem sz_70 : sizeB Tryz.prog 70 1 = true := by kernel_rfl
theorem sz_71 : sizeB Tryz.prog 71 1 = true := by kernel_rfl
theorem sz_72 : sizeB Tryz.prog 72 1 = true := by kernel_rfl
theorem sz_74 : sizeB Tryz.prog 74 4 = true := by kernel_rfl
theorem sz_75 : sizeB Tryz.prog 75 1 = true := by kernel_rfl
theorem sz_78 : sizeB Tryz.prog 78 1 = true := by kernel_rfl
theorem sz_82 : sizeB Tryz.prog 82 12 = true := by kernel_rfl
theorem sz_84 : sizeB Tryz.prog 84 2 = true := by kernel_rfl
theorem sz_90 : sizeB Tryz.prog 90 1 = true := by kernel_rfl
theorem sz_94 : sizeB Tryz.prog 94 4 = true := by kernel_rfl
theorem sz_100 : sizeB Tryz.prog 100 5 = true := by kernel_rfl
theorem sz_104 : sizeB Tryz.prog 104 1 = true := by kernel_rfl
theorem sz_106 : sizeB Tryz.prog 106 1 = true := by kernel_rfl
theorem sz_110 : sizeB Tryz.prog 110 1 = true := by kernel_rfl
theorem sz_117 : sizeB Tryz.prog 117 3 = true := by kernel_rfl
theorem sz_118 : sizeB Tryz.prog 118 1 = true := by kernel_rfl
theorem sz_119 : sizeB Tryz.prog 119 1 = true := by kernel_rfl
theorem sz_121 : sizeB Tryz.prog 121 3 = true := by kernel_rfl
theorem sz_122 : sizeB Tryz.prog 122 6 = true := by kernel_rfl
theorem sz_127 : sizeB Tryz.prog 127 3 = true := by kernel_rfl
theorem sz_130 : sizeB Tryz.prog 130 20 = true := by kernel_rfl
theorem sz_141 : sizeB Tryz.prog 141 1 = true := by kernel_rfl
theorem sz_143 : sizeB Tryz.prog 143 2 = true := by kernel_rfl
theorem sz_150 : sizeB Tryz.prog 150 1 = true := by kernel_rfl
theorem sz_152 : sizeB Tryz.prog 152 3 = true := by kernel_rfl
theorem sz_155 : sizeB Tryz.prog 155 1 = true := by kernel_rfl
theorem sz_157 : sizeB Tryz.prog 157 2 = true := by kernel_rfl
theorem sz_159 : sizeB Tryz.prog 159 1 = true := by kernel_rfl
theorem sz_163 : sizeB Tryz.prog 163 4 = true := by kernel_rfl
theorem sz_167 : sizeB Tryz.prog 167 4 = true := by kernel_rfl
theorem sz_174 : sizeB Tryz.prog 174 1 = true := by kernel_rfl
theorem sz_176 : sizeB Tryz.prog 176 6 = true := by kernel_rfl
theorem sz_177 : sizeB Tryz.prog 177 1 = true := by kernel_rfl
theorem sz_181 : sizeB Tryz.prog 181 6 = true := by kernel_rfl
theorem sz_182 : sizeB Tryz.prog 182 4 = true := by kernel_rfl
theorem sz_184 : sizeB Tryz.prog 184 6 = true := by kernel_rfl
theorem sz_187 : sizeB Tryz.prog 187 2 = true := by kernel_rfl
theorem sz_190 : sizeB Tryz.prog 190 1 = true := by kernel_rfl
theorem sz_193 : sizeB Tryz.prog 193 2 = true := by kernel_rfl
theorem sz_195 : sizeB Tryz.prog 195 1 = true := by kernel_rfl
theorem sz_198 : sizeB Tryz.prog 198 3 = true := by kernel_rfl
theorem sz_201 : sizeB Tryz.prog 201 2 = true := by kernel_rfl
theorem sz_202 : sizeB Tryz.prog 202 1 = true := by kernel_rfl
theorem sz_212 : sizeB Tryz.prog 212 2 = true := by kernel_rfl
theorem sz_214 : sizeB Tryz.prog 214 2 = true := by kernel_rfl
theorem sz_220 : sizeB Tryz.prog 220 0 = true := by kernel_rfl
theorem ze_3 : zeroB Tryz.prog 3 [.int .i64 0] := zeroB_of (by kernel_rfl)
theorem ze_5 : zeroB Tryz.prog 5 [.int .u8 0] := zeroB_of (by kernel_rfl)
theorem ze_9 : zeroB Tryz.prog 9 [S []] := zeroB_of (by kernel_rfl)
theorem ze_21 : zeroB Tryz.prog 21 [.int .i32 0] := zeroB_of (by kernel_rfl)
theorem ze_26 : zeroB Tryz.prog 26 [.pointer none] := zeroB_of (by kernel_rfl)
theorem ze_28 : zeroB Tryz.prog 28 [.pointer none, .pointer none, .pointer none] := zeroB_of (by kernel_rfl)
theorem ze_30 : zeroB Tryz.prog 30 [.pointer none] := zeroB_of (by kernel_rfl)
theorem ze_94 : zeroB Tryz.prog 94 [.int .i64 0, .int .i64 0, .int .i64 0, S []] := zeroB_of (by kernel_rfl)
theorem ze_100 : zeroB Tryz.prog 100 [.int .i64 0, .int .i64 0, S [], .int .i64 0, .int .i64 0] := zeroB_of (by kernel_rfl)
theorem ze_104 : zeroB Tryz.prog 104 [.pointer none] := zeroB_of (by kernel_rfl)
theorem ze_106 : zeroB Tryz.prog 106 [.nilIface] := zeroB_of (by kernel_rfl)
theorem ze_110 : zeroB Tryz.prog 110 [.int .i8 0] := zeroB_of (by kernel_rfl)
theorem ze_117 : zeroB Tryz.prog 117 [.int .i64 0, .int .i64 0, .int .i64 0] := zeroB_of (by kernel_rfl)
theorem ze_122 : zeroB Tryz.prog 122 [.int .i64 0, .int .i64 0, .int .i64 0, .int .i64 0, .int .i64 0, .int .i64 0] := zeroB_of (by kernel_rfl)
theorem ze_127 : zeroB Tryz.prog 127 [.int .i64 0, .int .i64 0, .int .i64 0] := zeroB_of (by kernel_rfl)
theorem ze_130 : zeroB Tryz.prog 130 [.int .u8 0, .int .u8 0, .int .u8 0, .int .u8 0, .int .u8 0, .int .u8 0, .int .u8 0, .int .u8 0, .int .u8 0, .int .u8 0, .int .u8 0, .int .u8 0, .int .u8 0, .int .u8 0, .int .u8 0, .int .u8 0, .int .u8 0, .int .u8 0, .int .u8 0, .int .u8 0] := zeroB_of (by kernel_rfl)
theorem ze_157 : zeroB Tryz.prog 157 [.int .u8 0, .int .u8 0] := zeroB_of (by kernel_rfl)
theorem ze_163 : zeroB Tryz.prog 163 [.int .u8 0, .int .u8 0, .int .u8 0, .int .u8 0] := zeroB_of (by kernel_rfl)
theorem ze_176 : zeroB Tryz.prog 176 [.int .i32 0, .int .i32 0, .int .i32 0, .int .i32 0, .int .i32 0, .int .i32 0] := zeroB_of (by kernel_rfl)
theorem ze_177 : zeroB Tryz.prog 177 [.int .i8 0] := zeroB_of (by kernel_rfl)
theorem ze_181 : zeroB Tryz.prog 181 [.bool false, .bool false, .bool false, .bool false, .bool false, .bool false] := zeroB_of (by kernel_rfl)
theorem ze_184 : zeroB Tryz.prog 184 [S [], .int .i64 0, .int .i64 0, .int .i64 0, .int .i64 0, .int .i64 0] := zeroB_of (by kernel_rfl)
theorem ze_195 : zeroB Tryz.prog 195 [.nilIface] := zeroB_of (by kernel_rfl)
theorem ze_198 : zeroB Tryz.prog 198 [.int .i32 0, .int .i32 0, .int .i32 0] := zeroB_of (by kernel_rfl)
theorem ze_201 : zeroB Tryz.prog 201 [.int .i32 0, .int .i32 0] := zeroB_of (by kernel_rfl)
theorem ze_214 : zeroB Tryz.prog 214 [.int .u8 0, .int .i64 0] := zeroB_of (by kernel_rfl)
theorem ze_220 : zeroB Tryz.prog 220 [] := zeroB_of (by kernel_rfl)
theorem zx_3 : ∃ z, zeroB Tryz.prog 3 z ∧ z.length = 1 := ⟨_, ze_3, rfl⟩
theorem zx_5 : ∃ z, zeroB Tryz.prog 5 z ∧ z.length = 1 := ⟨_, ze_5, rfl⟩
theorem zx_9 : ∃ z, zeroB Tryz.prog 9 z ∧ z.length = 1 := ⟨_, ze_9, rfl⟩
theorem zx_21 : ∃ z, zeroB Tryz.prog 21 z ∧ z.length = 1 := ⟨_, ze_21, rfl⟩
theorem zx_26 : ∃ z, zeroB Tryz.prog 26 z ∧ z.length = 1 := ⟨_, ze_26, rfl⟩
theorem zx_30 : ∃ z, zeroB Tryz.prog 30 z ∧ z.length = 1 := ⟨_, ze_30, rfl⟩
theorem zx_94 : ∃ z, zeroB Tryz.prog 94 z ∧ z.length = 4 := ⟨_, ze_94, rfl⟩
theorem zx_100 : ∃ z, zeroB Tryz.prog 100 z ∧ z.length = 5 := ⟨_, ze_100, rfl⟩
theorem zx_104 : ∃ z, zeroB Tryz.prog 104 z ∧ z.length = 1 := ⟨_, ze_104, rfl⟩
theorem zx_110 : ∃ z, zeroB Tryz.prog 110 z ∧ z.length = 1 := ⟨_, ze_110, rfl⟩
theorem zx_117 : ∃ z, zeroB Tryz.prog 117 z ∧ z.length = 3 := ⟨_, ze_117, rfl⟩
theorem zx_127 : ∃ z, zeroB Tryz.prog 127 z ∧ z.length = 3 := ⟨_, ze_127, rfl⟩
theorem zx_177 : ∃ z, zeroB Tryz.prog 177 z ∧ z.length = 1 := ⟨_, ze_177, rfl⟩
theorem zx_184 : ∃ z, zeroB Tryz.prog 184 z ∧ z.length = 6 := ⟨_, ze_184, rfl⟩
theorem zx_195 : ∃ z, zeroB Tryz.prog 195 z ∧ z.length = 1 := ⟨_, ze_195, rfl⟩
theorem zx_198 : ∃ z, zeroB Tryz.prog 198 z ∧ z.length = 3 := ⟨_, ze_198, rfl⟩
theorem zx_201 : ∃ z, zeroB Tryz.prog 201 z ∧ z.length = 2 := ⟨_, ze_201, rfl⟩
theorem mixed : Tryz.prog.follows .mixedOrders = true := by kernel_rfl
end Go.Proofs.Qxb6500569aGreat
