import Derived.Test.Qxb6500568aGreatDoorRows
import Derived.Test.Qxb6500568aGreatDoorFo
namespace Go.Proofs.Qxb6500568aGreatDoor
set_option maxRecDepth 100000

theorem ag_53 : aggB Tryz.prog 53 3 = true := by kernel_rfl
theorem ag_56 : aggB Tryz.prog 56 5 = true := by kernel_rfl
theorem ag_61 : aggB Tryz.prog 61 6 = true := by kernel_rfl
theorem ag_68 : aggB Tryz.prog 68 4 = true := by kernel_rfl
theorem ag_72 : aggB Tryz.prog 72 1 = true := by kernel_rfl
theorem ag_75 : aggB Tryz.prog 75 3 = true := by kernel_rfl
theorem ag_79 : aggB Tryz.prog 79 3 = true := by kernel_rfl
theorem ag_89 : aggB Tryz.prog 89 13 = true := by kernel_rfl
theorem ag_91 : aggB Tryz.prog 91 3 = true := by kernel_rfl
theorem ag_94 : aggB Tryz.prog 94 6 = true := by kernel_rfl
theorem ag_96 : aggB Tryz.prog 96 0 = true := by kernel_rfl
theorem ag_99 : aggB Tryz.prog 99 2 = true := by kernel_rfl
theorem ag_101 : aggB Tryz.prog 101 1 = true := by kernel_rfl
theorem ag_107 : aggB Tryz.prog 107 2 = true := by kernel_rfl
theorem ag_110 : aggB Tryz.prog 110 5 = true := by kernel_rfl
theorem ag_112 : aggB Tryz.prog 112 22 = true := by kernel_rfl
theorem ag_119 : aggB Tryz.prog 119 3 = true := by kernel_rfl
theorem ag_122 : aggB Tryz.prog 122 2 = true := by kernel_rfl
theorem ag_126 : aggB Tryz.prog 126 5 = true := by kernel_rfl
theorem ag_134 : aggB Tryz.prog 134 5 = true := by kernel_rfl
theorem ag_139 : aggB Tryz.prog 139 2 = true := by kernel_rfl
theorem ag_144 : aggB Tryz.prog 144 5 = true := by kernel_rfl
theorem ag_146 : aggB Tryz.prog 146 14 = true := by kernel_rfl
theorem ag_148 : aggB Tryz.prog 148 8 = true := by kernel_rfl
theorem ag_154 : aggB Tryz.prog 154 6 = true := by kernel_rfl
theorem ag_159 : aggB Tryz.prog 159 5 = true := by kernel_rfl
theorem ag_161 : aggB Tryz.prog 161 4 = true := by kernel_rfl
theorem ag_182 : aggB Tryz.prog 182 5 = true := by kernel_rfl
theorem ag_184 : aggB Tryz.prog 184 2 = true := by kernel_rfl
theorem ag_186 : aggB Tryz.prog 186 12 = true := by kernel_rfl
theorem ag_203 : aggB Tryz.prog 203 2 = true := by kernel_rfl
theorem ag_205 : aggB Tryz.prog 205 2 = true := by kernel_rfl
theorem ag_209 : aggB Tryz.prog 209 3 = true := by kernel_rfl
theorem ag_211 : aggB Tryz.prog 211 9 = true := by kernel_rfl
theorem ag_225 : aggB Tryz.prog 225 9 = true := by kernel_rfl
theorem ag_251 : aggB Tryz.prog 251 6 = true := by kernel_rfl
theorem ag_254 : aggB Tryz.prog 254 3 = true := by kernel_rfl
theorem ag_258 : aggB Tryz.prog 258 8 = true := by kernel_rfl
theorem ag_263 : aggB Tryz.prog 263 6 = true := by kernel_rfl
theorem ag_274 : aggB Tryz.prog 274 20 = true := by kernel_rfl
theorem ag_278 : aggB Tryz.prog 278 2 = true := by kernel_rfl
theorem ag_281 : aggB Tryz.prog 281 3 = true := by kernel_rfl
theorem ag_295 : aggB Tryz.prog 295 3 = true := by kernel_rfl
theorem ag_297 : aggB Tryz.prog 297 1 = true := by kernel_rfl
theorem ag_304 : aggB Tryz.prog 304 1 = true := by kernel_rfl
theorem ag_309 : aggB Tryz.prog 309 3 = true := by kernel_rfl
theorem ag_319 : aggB Tryz.prog 319 2 = true := by kernel_rfl
theorem ag_322 : aggB Tryz.prog 322 2 = true := by kernel_rfl
theorem ag_328 : aggB Tryz.prog 328 33 = true := by kernel_rfl
theorem ag_331 : aggB Tryz.prog 331 5 = true := by kernel_rfl
theorem ag_335 : aggB Tryz.prog 335 3 = true := by kernel_rfl
theorem ag_349 : aggB Tryz.prog 349 2 = true := by kernel_rfl
theorem ag_352 : aggB Tryz.prog 352 2 = true := by kernel_rfl
theorem ag_356 : aggB Tryz.prog 356 2 = true := by kernel_rfl
theorem ag_359 : aggB Tryz.prog 359 4 = true := by kernel_rfl
theorem ag_362 : aggB Tryz.prog 362 3 = true := by kernel_rfl
theorem ag_365 : aggB Tryz.prog 365 3 = true := by kernel_rfl
theorem ag_367 : aggB Tryz.prog 367 3 = true := by kernel_rfl
theorem ag_371 : aggB Tryz.prog 371 5 = true := by kernel_rfl
theorem ag_373 : aggB Tryz.prog 373 3 = true := by kernel_rfl
theorem ag_375 : aggB Tryz.prog 375 2 = true := by kernel_rfl
theorem ag_377 : aggB Tryz.prog 377 3 = true := by kernel_rfl
theorem ag_380 : aggB Tryz.prog 380 3 = true := by kernel_rfl
theorem ag_383 : aggB Tryz.prog 383 2 = true := by kernel_rfl
theorem ag_386 : aggB Tryz.prog 386 2 = true := by kernel_rfl
theorem ag_388 : aggB Tryz.prog 388 4 = true := by kernel_rfl
theorem ag_391 : aggB Tryz.prog 391 2 = true := by kernel_rfl
theorem ag_394 : aggB Tryz.prog 394 3 = true := by kernel_rfl
theorem ag_399 : aggB Tryz.prog 399 8 = true := by kernel_rfl
theorem ag_413 : aggB Tryz.prog 413 5 = true := by kernel_rfl
theorem ag_425 : aggB Tryz.prog 425 32 = true := by kernel_rfl
theorem ar_110 : arrB Tryz.prog 110 5 3 1 = true := by kernel_rfl
theorem ar_205 : arrB Tryz.prog 205 2 5 1 = true := by kernel_rfl
theorem ar_225 : arrB Tryz.prog 225 3 119 3 = true := by kernel_rfl
theorem ar_274 : arrB Tryz.prog 274 20 5 1 = true := by kernel_rfl
theorem ar_281 : arrB Tryz.prog 281 3 3 1 = true := by kernel_rfl
theorem ar_328 : arrB Tryz.prog 328 33 21 1 = true := by kernel_rfl
theorem ar_399 : arrB Tryz.prog 399 8 5 1 = true := by kernel_rfl
theorem ar_425 : arrB Tryz.prog 425 32 4 1 = true := by kernel_rfl
theorem bb_1 : ((Tryz.prog.info? 1).any fun i => Nat.ble i.bytes 1000) = true := by kernel_rfl
theorem bb_3 : ((Tryz.prog.info? 3).any fun i => Nat.ble i.bytes 1000) = true := by kernel_rfl
theorem bb_5 : ((Tryz.prog.info? 5).any fun i => Nat.ble i.bytes 1000) = true := by kernel_rfl
theorem bb_9 : ((Tryz.prog.info? 9).any fun i => Nat.ble i.bytes 1000) = true := by kernel_rfl
theorem bb_21 : ((Tryz.prog.info? 21).any fun i => Nat.ble i.bytes 1000) = true := by kernel_rfl
theorem bb_22 : ((Tryz.prog.info? 22).any fun i => Nat.ble i.bytes 1000) = true := by kernel_rfl
theorem bb_24 : ((Tryz.prog.info? 24).any fun i => Nat.ble i.bytes 1000) = true := by kernel_rfl
theorem bb_29 : ((Tryz.prog.info? 29).any fun i => Nat.ble i.bytes 1000) = true := by kernel_rfl
theorem bb_119 : ((Tryz.prog.info? 119).any fun i => Nat.ble i.bytes 1000) = true := by kernel_rfl
theorem bb_122 : ((Tryz.prog.info? 122).any fun i => Nat.ble i.bytes 1000) = true := by kernel_rfl
theorem bb_123 : ((Tryz.prog.info? 123).any fun i => Nat.ble i.bytes 1000) = true := by kernel_rfl
theorem bb_139 : ((Tryz.prog.info? 139).any fun i => Nat.ble i.bytes 1000) = true := by kernel_rfl
theorem bb_148 : ((Tryz.prog.info? 148).any fun i => Nat.ble i.bytes 1000) = true := by kernel_rfl
theorem bb_154 : ((Tryz.prog.info? 154).any fun i => Nat.ble i.bytes 1000) = true := by kernel_rfl
theorem bb_155 : ((Tryz.prog.info? 155).any fun i => Nat.ble i.bytes 1000) = true := by kernel_rfl
theorem bb_161 : ((Tryz.prog.info? 161).any fun i => Nat.ble i.bytes 1000) = true := by kernel_rfl
theorem bb_182 : ((Tryz.prog.info? 182).any fun i => Nat.ble i.bytes 1000) = true := by kernel_rfl
theorem bb_199 : ((Tryz.prog.info? 199).any fun i => Nat.ble i.bytes 1000) = true := by kernel_rfl
theorem bb_203 : ((Tryz.prog.info? 203).any fun i => Nat.ble i.bytes 1000) = true := by kernel_rfl
theorem bb_205 : ((Tryz.prog.info? 205).any fun i => Nat.ble i.bytes 1000) = true := by kernel_rfl
theorem bb_209 : ((Tryz.prog.info? 209).any fun i => Nat.ble i.bytes 1000) = true := by kernel_rfl
theorem bb_242 : ((Tryz.prog.info? 242).any fun i => Nat.ble i.bytes 1000) = true := by kernel_rfl
theorem bb_251 : ((Tryz.prog.info? 251).any fun i => Nat.ble i.bytes 1000) = true := by kernel_rfl
theorem bb_258 : ((Tryz.prog.info? 258).any fun i => Nat.ble i.bytes 1000) = true := by kernel_rfl
theorem bb_263 : ((Tryz.prog.info? 263).any fun i => Nat.ble i.bytes 1000) = true := by kernel_rfl
theorem bb_269 : ((Tryz.prog.info? 269).any fun i => Nat.ble i.bytes 1000) = true := by kernel_rfl
theorem bb_278 : ((Tryz.prog.info? 278).any fun i => Nat.ble i.bytes 1000) = true := by kernel_rfl
theorem bb_319 : ((Tryz.prog.info? 319).any fun i => Nat.ble i.bytes 1000) = true := by kernel_rfl
theorem bb_322 : ((Tryz.prog.info? 322).any fun i => Nat.ble i.bytes 1000) = true := by kernel_rfl
theorem bb_331 : ((Tryz.prog.info? 331).any fun i => Nat.ble i.bytes 1000) = true := by kernel_rfl
theorem bb_367 : ((Tryz.prog.info? 367).any fun i => Nat.ble i.bytes 1000) = true := by kernel_rfl
theorem bb_413 : ((Tryz.prog.info? 413).any fun i => Nat.ble i.bytes 1000) = true := by kernel_rfl
theorem bld_53_0_1_2 {x0 : Option Addr} {x1 : Option Addr} {x2 : Option Addr} : Tryz.prog.built 53 [(0, .pointer x0), (1, .pointer x1), (2, .pointer x2)] = some #[.pointer x0, .pointer x1, .pointer x2] := by kernel_rfl
theorem bld_56_0 {x0 : Int} : Tryz.prog.built 56 [(0, .int .i64 x0)] = some #[.int .i64 x0, .int .i64 0, .int .i64 0, S [], S []] := by kernel_rfl
theorem bld_56_0_1 {x0 : Int} {x1 : Int} : Tryz.prog.built 56 [(0, .int .i64 x0), (1, .int .i64 x1)] = some #[.int .i64 x0, .int .i64 x1, .int .i64 0, S [], S []] := by kernel_rfl
theorem bld_56_0_1_2_3_4 {x0 : Int} {x1 : Int} {x2 : Int} {x3 : ByteArray} {x4 : ByteArray} : Tryz.prog.built 56 [(0, .int .i64 x0), (1, .int .i64 x1), (2, .int .i64 x2), (3, .string x3), (4, .string x4)] = some #[.int .i64 x0, .int .i64 x1, .int .i64 x2, .string x3, .string x4] := by kernel_rfl
theorem bld_68  : Tryz.prog.built 68 [] = some #[.slice none 0 0, .slice none 0 0, .slice none 0 0, .slice none 0 0] := by kernel_rfl
theorem bld_72_0 {x0 : Option Addr} {x0n x0c : Nat} : Tryz.prog.built 72 [(0, .slice x0 x0n x0c)] = some #[.slice x0 x0n x0c] := by kernel_rfl
theorem bld_75_0 {x0 : Option Addr} : Tryz.prog.built 75 [(0, .pointer x0)] = some #[.pointer x0, .slice none 0 0, .int .i64 0] := by kernel_rfl
theorem bld_79_0 {x0 : Option Addr} : Tryz.prog.built 79 [(0, .pointer x0)] = some #[.pointer x0, .slice none 0 0, .slice none 0 0] := by kernel_rfl
theorem bld_89_0_1_9_12 {x0 : Option Addr} {x1 : Option Addr} {x9 : Option Addr} {x9n x9c : Nat} {x12 : Int} : Tryz.prog.built 89 [(0, .pointer x0), (1, .pointer x1), (9, .slice x9 x9n x9c), (12, .int .i64 x12)] = some #[.pointer x0, .pointer x1, .slice none 0 0, .slice none 0 0, .slice none 0 0, .slice none 0 0, .slice none 0 0, .slice none 0 0, .slice none 0 0, .slice x9 x9n x9c, .int .i64 0, .slice none 0 0, .int .i64 x12] := by kernel_rfl
theorem bld_91_0 {x0 : Option Addr} : Tryz.prog.built 91 [(0, .pointer x0)] = some #[.pointer x0, .int .i64 0, .int .i64 0] := by kernel_rfl
theorem bld_94_0_1_3 {x0 : Option Addr} {x1 : Option Addr} {x3 : Option Addr} {x3n x3c : Nat} : Tryz.prog.built 94 [(0, .pointer x0), (1, .pointer x1), (3, .slice x3 x3n x3c)] = some #[.pointer x0, .pointer x1, .slice none 0 0, .slice x3 x3n x3c, .int .i64 0, .slice none 0 0] := by kernel_rfl
theorem bld_96  : Tryz.prog.built 96 [] = some #[] := by kernel_rfl
theorem bld_99_0 {x0 : Option Addr} : Tryz.prog.built 99 [(0, .pointer x0)] = some #[.pointer x0, .slice none 0 0] := by kernel_rfl
theorem bld_101_0 {x0 : Option Addr} : Tryz.prog.built 101 [(0, .pointer x0)] = some #[.pointer x0] := by kernel_rfl
theorem bld_107_0_1 {x0 : Option Addr} {x0n x0c : Nat} {x1 : Int} : Tryz.prog.built 107 [(0, .slice x0 x0n x0c), (1, .int .i64 x1)] = some #[.slice x0 x0n x0c, .int .i64 x1] := by kernel_rfl
theorem bld_112_0_1_2_3 {x0 : Option Addr} {x1 : Option Addr} {x2 : Option Addr} {x2n x2c : Nat} {x3 : Int} : Tryz.prog.built 112 [(0, .pointer x0), (1, .pointer x1), (2, .slice x2 x2n x2c), (3, .int .i64 x3)] = some #[.pointer x0, .pointer x1, .slice x2 x2n x2c, .int .i64 x3, .slice none 0 0, .slice none 0 0, .int .i64 0, .int .i64 0, .int .i64 0, .int .i64 0, .int .i64 0, .int .i64 0, .int .i64 0, .int .i64 0, .int .i64 0, S [], .bool false, .int .i64 0, .int .i64 0, .int .i64 0, S [], S []] := by kernel_rfl
theorem bld_119  : Tryz.prog.built 119 [] = some #[.int .i64 0, .int .u64 0, S []] := by kernel_rfl
theorem bld_119_0 {x0 : Int} : Tryz.prog.built 119 [(0, .int .i64 x0)] = some #[.int .i64 x0, .int .u64 0, S []] := by kernel_rfl
theorem bld_119_0_1 {x0 : Int} {x1 : Int} : Tryz.prog.built 119 [(0, .int .i64 x0), (1, .int .u64 x1)] = some #[.int .i64 x0, .int .u64 x1, S []] := by kernel_rfl
theorem bld_119_0_2 {x0 : Int} {x2 : ByteArray} : Tryz.prog.built 119 [(0, .int .i64 x0), (2, .string x2)] = some #[.int .i64 x0, .int .u64 0, .string x2] := by kernel_rfl
theorem bld_122  : Tryz.prog.built 122 [] = some #[.int .i64 0, .pointer none] := by kernel_rfl
theorem bld_122_0_1 {x0 : Int} {x1 : Option Addr} : Tryz.prog.built 122 [(0, .int .i64 x0), (1, .pointer x1)] = some #[.int .i64 x0, .pointer x1] := by kernel_rfl
theorem bld_126_0 {x0 : Int} : Tryz.prog.built 126 [(0, .int .i64 x0)] = some #[.int .i64 x0, .int .i64 0, .int .i64 0, .slice none 0 0, .slice none 0 0] := by kernel_rfl
theorem bld_126_0_1 {x0 : Int} {x1 : Int} : Tryz.prog.built 126 [(0, .int .i64 x0), (1, .int .i64 x1)] = some #[.int .i64 x0, .int .i64 x1, .int .i64 0, .slice none 0 0, .slice none 0 0] := by kernel_rfl
theorem bld_134_0_1 {x0 : Int} {x1f0 : Int} {x1f1 : Int} {x1f2 : ByteArray} : Tryz.prog.built 134 [(0, .int .i64 x0), (1, .agg #[.int .i64 x1f0, .int .u64 x1f1, .string x1f2])] = some #[.int .i64 x0, .int .i64 x1f0, .int .u64 x1f1, .string x1f2, .int .i64 0] := by kernel_rfl
theorem bld_134_0_2 {x0 : Int} {x2 : Int} : Tryz.prog.built 134 [(0, .int .i64 x0), (2, .int .i64 x2)] = some #[.int .i64 x0, .int .i64 0, .int .u64 0, S [], .int .i64 x2] := by kernel_rfl
theorem bld_139_0_1 {x0 : ByteArray} {x1 : ByteArray} : Tryz.prog.built 139 [(0, .string x0), (1, .string x1)] = some #[.string x0, .string x1] := by kernel_rfl
theorem bld_144_0_1_3 {x0 : Int} {x1 : ByteArray} {x3 : Int} : Tryz.prog.built 144 [(0, .int .i64 x0), (1, .string x1), (3, .int .i64 x3)] = some #[.int .i64 x0, .string x1, .int .u64 0, .int .i64 x3, .int .i64 0] := by kernel_rfl
theorem bld_144_0_2_3 {x0 : Int} {x2 : Int} {x3 : Int} : Tryz.prog.built 144 [(0, .int .i64 x0), (2, .int .u64 x2), (3, .int .i64 x3)] = some #[.int .i64 x0, S [], .int .u64 x2, .int .i64 x3, .int .i64 0] := by kernel_rfl
theorem bld_144_0_3 {x0 : Int} {x3 : Int} : Tryz.prog.built 144 [(0, .int .i64 x0), (3, .int .i64 x3)] = some #[.int .i64 x0, S [], .int .u64 0, .int .i64 x3, .int .i64 0] := by kernel_rfl
theorem bld_144_0_4_3 {x0 : Int} {x4 : Int} {x3 : Int} : Tryz.prog.built 144 [(0, .int .i64 x0), (4, .int .i64 x4), (3, .int .i64 x3)] = some #[.int .i64 x0, S [], .int .u64 0, .int .i64 x3, .int .i64 x4] := by kernel_rfl
theorem bld_146_0_1 {x0 : Option Addr} {x1 : ByteArray} : Tryz.prog.built 146 [(0, .pointer x0), (1, .string x1)] = some #[.pointer x0, .string x1, .int .i64 0, .int .i64 0, S [], .int .u64 0, .int .i64 0, .int .i64 0, .slice none 0 0, .int .i64 0, .int .i64 0, .int .i64 0, .int .i64 0, .int .i64 0] := by kernel_rfl
theorem bld_148  : Tryz.prog.built 148 [] = some #[.int .i64 0, .int .i64 0, .int .i64 0, .int .i64 0, .int .i64 0, .int .u64 0, S [], .int .i64 0] := by kernel_rfl
theorem bld_148_0_1_2_3_7 {x0 : Int} {x1 : Int} {x2 : Int} {x3 : Int} {x7 : Int} : Tryz.prog.built 148 [(0, .int .i64 x0), (1, .int .i64 x1), (2, .int .i64 x2), (3, .int .i64 x3), (7, .int .i64 x7)] = some #[.int .i64 x0, .int .i64 x1, .int .i64 x2, .int .i64 x3, .int .i64 0, .int .u64 0, S [], .int .i64 x7] := by kernel_rfl
theorem bld_148_0_1_2_5_7 {x0 : Int} {x1 : Int} {x2 : Int} {x5 : Int} {x7 : Int} : Tryz.prog.built 148 [(0, .int .i64 x0), (1, .int .i64 x1), (2, .int .i64 x2), (5, .int .u64 x5), (7, .int .i64 x7)] = some #[.int .i64 x0, .int .i64 x1, .int .i64 x2, .int .i64 0, .int .i64 0, .int .u64 x5, S [], .int .i64 x7] := by kernel_rfl
theorem bld_148_0_1_2_7 {x0 : Int} {x1 : Int} {x2 : Int} {x7 : Int} : Tryz.prog.built 148 [(0, .int .i64 x0), (1, .int .i64 x1), (2, .int .i64 x2), (7, .int .i64 x7)] = some #[.int .i64 x0, .int .i64 x1, .int .i64 x2, .int .i64 0, .int .i64 0, .int .u64 0, S [], .int .i64 x7] := by kernel_rfl
theorem bld_148_0_1_7 {x0 : Int} {x1 : Int} {x7 : Int} : Tryz.prog.built 148 [(0, .int .i64 x0), (1, .int .i64 x1), (7, .int .i64 x7)] = some #[.int .i64 x0, .int .i64 x1, .int .i64 0, .int .i64 0, .int .i64 0, .int .u64 0, S [], .int .i64 x7] := by kernel_rfl
theorem bld_148_0_5_1_2_7 {x0 : Int} {x5 : Int} {x1 : Int} {x2 : Int} {x7 : Int} : Tryz.prog.built 148 [(0, .int .i64 x0), (5, .int .u64 x5), (1, .int .i64 x1), (2, .int .i64 x2), (7, .int .i64 x7)] = some #[.int .i64 x0, .int .i64 x1, .int .i64 x2, .int .i64 0, .int .i64 0, .int .u64 x5, S [], .int .i64 x7] := by kernel_rfl
theorem bld_148_0_5_1_7 {x0 : Int} {x5 : Int} {x1 : Int} {x7 : Int} : Tryz.prog.built 148 [(0, .int .i64 x0), (5, .int .u64 x5), (1, .int .i64 x1), (7, .int .i64 x7)] = some #[.int .i64 x0, .int .i64 x1, .int .i64 0, .int .i64 0, .int .i64 0, .int .u64 x5, S [], .int .i64 x7] := by kernel_rfl
theorem bld_148_0_5_7 {x0 : Int} {x5 : Int} {x7 : Int} : Tryz.prog.built 148 [(0, .int .i64 x0), (5, .int .u64 x5), (7, .int .i64 x7)] = some #[.int .i64 x0, .int .i64 0, .int .i64 0, .int .i64 0, .int .i64 0, .int .u64 x5, S [], .int .i64 x7] := by kernel_rfl
theorem bld_148_0_6_1_2_7 {x0 : Int} {x6 : ByteArray} {x1 : Int} {x2 : Int} {x7 : Int} : Tryz.prog.built 148 [(0, .int .i64 x0), (6, .string x6), (1, .int .i64 x1), (2, .int .i64 x2), (7, .int .i64 x7)] = some #[.int .i64 x0, .int .i64 x1, .int .i64 x2, .int .i64 0, .int .i64 0, .int .u64 0, .string x6, .int .i64 x7] := by kernel_rfl
theorem bld_148_0_6_1_7 {x0 : Int} {x6 : ByteArray} {x1 : Int} {x7 : Int} : Tryz.prog.built 148 [(0, .int .i64 x0), (6, .string x6), (1, .int .i64 x1), (7, .int .i64 x7)] = some #[.int .i64 x0, .int .i64 x1, .int .i64 0, .int .i64 0, .int .i64 0, .int .u64 0, .string x6, .int .i64 x7] := by kernel_rfl
theorem bld_148_0_6_7 {x0 : Int} {x6 : ByteArray} {x7 : Int} : Tryz.prog.built 148 [(0, .int .i64 x0), (6, .string x6), (7, .int .i64 x7)] = some #[.int .i64 x0, .int .i64 0, .int .i64 0, .int .i64 0, .int .i64 0, .int .u64 0, .string x6, .int .i64 x7] := by kernel_rfl
theorem bld_148_0_7 {x0 : Int} {x7 : Int} : Tryz.prog.built 148 [(0, .int .i64 x0), (7, .int .i64 x7)] = some #[.int .i64 x0, .int .i64 0, .int .i64 0, .int .i64 0, .int .i64 0, .int .u64 0, S [], .int .i64 x7] := by kernel_rfl
theorem bld_148_7 {x7 : Int} : Tryz.prog.built 148 [(7, .int .i64 x7)] = some #[.int .i64 0, .int .i64 0, .int .i64 0, .int .i64 0, .int .i64 0, .int .u64 0, S [], .int .i64 x7] := by kernel_rfl
theorem bld_154_0_1 {x0f0 : Int} {x0f1 : Int} {x0f2 : ByteArray} {x1f0 : Int} {x1f1 : Int} {x1f2 : ByteArray} : Tryz.prog.built 154 [(0, .agg #[.int .i64 x0f0, .int .u64 x0f1, .string x0f2]), (1, .agg #[.int .i64 x1f0, .int .u64 x1f1, .string x1f2])] = some #[.int .i64 x0f0, .int .u64 x0f1, .string x0f2, .int .i64 x1f0, .int .u64 x1f1, .string x1f2] := by kernel_rfl
theorem bld_159_0_1_2 {x0 : ByteArray} {x1f0 : Int} {x1f1 : Int} {x1f2 : ByteArray} {x2 : Option Addr} : Tryz.prog.built 159 [(0, .string x0), (1, .agg #[.int .i64 x1f0, .int .u64 x1f1, .string x1f2]), (2, .pointer x2)] = some #[.string x0, .int .i64 x1f0, .int .u64 x1f1, .string x1f2, .pointer x2] := by kernel_rfl
theorem bld_159_0_2 {x0 : ByteArray} {x2 : Option Addr} : Tryz.prog.built 159 [(0, .string x0), (2, .pointer x2)] = some #[.string x0, .int .i64 0, .int .u64 0, S [], .pointer x2] := by kernel_rfl
theorem bld_161_0_1_2_3 {x0 : Int} {x1 : Int} {x2 : Int} {x3 : Option Addr} : Tryz.prog.built 161 [(0, .int .i64 x0), (1, .int .i64 x1), (2, .int .i64 x2), (3, .pointer x3)] = some #[.int .i64 x0, .int .i64 x1, .int .i64 x2, .pointer x3] := by kernel_rfl
theorem bld_182_0_1 {x0 : Int} {x1 : Int} : Tryz.prog.built 182 [(0, .int .i64 x0), (1, .int .i64 x1)] = some #[.int .i64 x0, .int .i64 x1, S [], .int .u64 0, .int .i64 0] := by kernel_rfl
theorem bld_182_0_1_4 {x0 : Int} {x1 : Int} {x4 : Int} : Tryz.prog.built 182 [(0, .int .i64 x0), (1, .int .i64 x1), (4, .int .i64 x4)] = some #[.int .i64 x0, .int .i64 x1, S [], .int .u64 0, .int .i64 x4] := by kernel_rfl
theorem bld_184_0 {x0 : Int} : Tryz.prog.built 184 [(0, .int .i64 x0)] = some #[.int .i64 x0, .int .i64 0] := by kernel_rfl
theorem bld_186_0_2 {x0 : Option Addr} {x0n x0c : Nat} {x2f0 : Int} {x2f1 : Int} {x2f2 : ByteArray} {x2f3 : Int} {x2f4 : Int} : Tryz.prog.built 186 [(0, .slice x0 x0n x0c), (2, .agg #[.int .i64 x2f0, .int .i64 x2f1, .string x2f2, .int .u64 x2f3, .int .i64 x2f4])] = some #[.slice x0 x0n x0c, .int .i64 0, .int .i64 x2f0, .int .i64 x2f1, .string x2f2, .int .u64 x2f3, .int .i64 x2f4, .int .i64 0, .int .i64 0, .int .i64 0, .int .i64 0, .int .i64 0] := by kernel_rfl
theorem bld_203_0 {x0 : Int} : Tryz.prog.built 203 [(0, .int .u8 x0)] = some #[.int .u8 x0, .int .u16 0] := by kernel_rfl
theorem bld_203_0_1 {x0 : Int} {x1 : Int} : Tryz.prog.built 203 [(0, .int .u8 x0), (1, .int .u16 x1)] = some #[.int .u8 x0, .int .u16 x1] := by kernel_rfl
theorem bld_205_0_1 {x0 : Int} {x1 : Int} : Tryz.prog.built 205 [(0, .int .u8 x0), (1, .int .u8 x1)] = some #[.int .u8 x0, .int .u8 x1] := by kernel_rfl
theorem bld_209  : Tryz.prog.built 209 [] = some #[.int .i64 0, .int .i64 0, .int .i64 0] := by kernel_rfl
theorem bld_209_0_1_2 {x0 : Int} {x1 : Int} {x2 : Int} : Tryz.prog.built 209 [(0, .int .i64 x0), (1, .int .i64 x1), (2, .int .i64 x2)] = some #[.int .i64 x0, .int .i64 x1, .int .i64 x2] := by kernel_rfl
theorem bld_211  : Tryz.prog.built 211 [] = some #[.int .i64 0, .int .i64 0, .int .i64 0, .int .i64 0, .int .u64 0, S [], .int .i64 0, .int .u64 0, S []] := by kernel_rfl
theorem bld_211_0 {x0 : Int} : Tryz.prog.built 211 [(0, .int .i64 x0)] = some #[.int .i64 x0, .int .i64 0, .int .i64 0, .int .i64 0, .int .u64 0, S [], .int .i64 0, .int .u64 0, S []] := by kernel_rfl
theorem bld_211_0_1_3 {x0 : Int} {x1 : Int} {x3f0 : Int} {x3f1 : Int} {x3f2 : ByteArray} : Tryz.prog.built 211 [(0, .int .i64 x0), (1, .int .i64 x1), (3, .agg #[.int .i64 x3f0, .int .u64 x3f1, .string x3f2])] = some #[.int .i64 x0, .int .i64 x1, .int .i64 0, .int .i64 x3f0, .int .u64 x3f1, .string x3f2, .int .i64 0, .int .u64 0, S []] := by kernel_rfl
theorem bld_211_0_2 {x0 : Int} {x2 : Int} : Tryz.prog.built 211 [(0, .int .i64 x0), (2, .int .i64 x2)] = some #[.int .i64 x0, .int .i64 0, .int .i64 x2, .int .i64 0, .int .u64 0, S [], .int .i64 0, .int .u64 0, S []] := by kernel_rfl
theorem bld_211_0_3 {x0 : Int} {x3f0 : Int} {x3f1 : Int} {x3f2 : ByteArray} : Tryz.prog.built 211 [(0, .int .i64 x0), (3, .agg #[.int .i64 x3f0, .int .u64 x3f1, .string x3f2])] = some #[.int .i64 x0, .int .i64 0, .int .i64 0, .int .i64 x3f0, .int .u64 x3f1, .string x3f2, .int .i64 0, .int .u64 0, S []] := by kernel_rfl
theorem bld_211_0_3_4 {x0 : Int} {x3f0 : Int} {x3f1 : Int} {x3f2 : ByteArray} {x4f0 : Int} {x4f1 : Int} {x4f2 : ByteArray} : Tryz.prog.built 211 [(0, .int .i64 x0), (3, .agg #[.int .i64 x3f0, .int .u64 x3f1, .string x3f2]), (4, .agg #[.int .i64 x4f0, .int .u64 x4f1, .string x4f2])] = some #[.int .i64 x0, .int .i64 0, .int .i64 0, .int .i64 x3f0, .int .u64 x3f1, .string x3f2, .int .i64 x4f0, .int .u64 x4f1, .string x4f2] := by kernel_rfl
theorem bld_251_2_3_4 {x2 : Option Nat} {x3 : Option Nat} {x4 : Option Nat} : Tryz.prog.built 251 [(2, .map x2), (3, .map x3), (4, .map x4)] = some #[.slice none 0 0, .slice none 0 0, .map x2, .map x3, .map x4, .int .i64 0] := by kernel_rfl
theorem bld_254_0 {x0 : Option Addr} {x0n x0c : Nat} : Tryz.prog.built 254 [(0, .slice x0 x0n x0c)] = some #[.slice x0 x0n x0c, .int .i64 0, .bool false] := by kernel_rfl
theorem bld_258_2_4_6 {x2 : Int} {x4 : Int} {x6 : Int} : Tryz.prog.built 258 [(2, .int .i64 x2), (4, .int .i64 x4), (6, .int .i64 x6)] = some #[.int .i64 0, .int .i64 0, .int .i64 x2, .int .i64 0, .int .i64 x4, .int .i64 0, .int .i64 x6, .int .i64 0] := by kernel_rfl
theorem bld_263_0_1 {x0f0 : Int} {x0f1 : Int} {x0f2 : ByteArray} {x1f0 : Int} {x1f1 : Int} {x1f2 : ByteArray} : Tryz.prog.built 263 [(0, .agg #[.int .i64 x0f0, .int .u64 x0f1, .string x0f2]), (1, .agg #[.int .i64 x1f0, .int .u64 x1f1, .string x1f2])] = some #[.int .i64 x0f0, .int .u64 x0f1, .string x0f2, .int .i64 x1f0, .int .u64 x1f1, .string x1f2] := by kernel_rfl
theorem bld_278_0 {x0 : Int} : Tryz.prog.built 278 [(0, .int .i64 x0)] = some #[.int .i64 x0, .slice none 0 0] := by kernel_rfl
theorem bld_295_0_1_2 {x0 : Int} {x1t : TypeId} {x1v : Value} {x2 : Option Addr} {x2n x2c : Nat} : Tryz.prog.built 295 [(0, .int .i64 x0), (1, .iface x1t x1v), (2, .slice x2 x2n x2c)] = some #[.int .i64 x0, .iface x1t x1v, .slice x2 x2n x2c] := by kernel_rfl
theorem bld_297_0 {x0 : Int} : Tryz.prog.built 297 [(0, .int .i64 x0)] = some #[.int .i64 x0] := by kernel_rfl
theorem bld_304_0 {x0 : Option Addr} : Tryz.prog.built 304 [(0, .pointer x0)] = some #[.pointer x0] := by kernel_rfl
theorem bld_309_0_1_2 {x0 : Int} {x1t : TypeId} {x1v : Value} {x2t : TypeId} {x2v : Value} : Tryz.prog.built 309 [(0, .int .i64 x0), (1, .iface x1t x1v), (2, .iface x2t x2v)] = some #[.int .i64 x0, .iface x1t x1v, .iface x2t x2v] := by kernel_rfl
theorem bld_319_0_1 {x0 : Int} {x1 : Int} : Tryz.prog.built 319 [(0, .int .u8 x0), (1, .int .u8 x1)] = some #[.int .u8 x0, .int .u8 x1] := by kernel_rfl
theorem bld_322_0_1 {x0 : Int} {x1 : Int} : Tryz.prog.built 322 [(0, .int .u8 x0), (1, .int .u16 x1)] = some #[.int .u8 x0, .int .u16 x1] := by kernel_rfl
theorem bld_331_0_2_3_4 {x0 : Int} {x2 : Int} {x3 : Int} {x4 : Bool} : Tryz.prog.built 331 [(0, .int .i64 x0), (2, .int .i64 x2), (3, .int .i64 x3), (4, .bool x4)] = some #[.int .i64 x0, .int .i64 0, .int .i64 x2, .int .i64 x3, .bool x4] := by kernel_rfl
theorem bld_335_0 {x0f0 : Int} {x0f1 : Int} {x0f2 : ByteArray} : Tryz.prog.built 335 [(0, .agg #[.int .i64 x0f0, .int .u64 x0f1, .string x0f2])] = some #[.int .i64 x0f0, .int .u64 x0f1, .string x0f2] := by kernel_rfl
theorem bld_349_0_1 {x0 : Int} {x1 : ByteArray} : Tryz.prog.built 349 [(0, .int .i64 x0), (1, .string x1)] = some #[.int .i64 x0, .string x1] := by kernel_rfl
theorem bld_352_0_1 {x0 : Option Addr} {x1 : Option Addr} : Tryz.prog.built 352 [(0, .pointer x0), (1, .pointer x1)] = some #[.pointer x0, .pointer x1] := by kernel_rfl
theorem bld_356_0 {x0 : Option Addr} {x0n x0c : Nat} : Tryz.prog.built 356 [(0, .slice x0 x0n x0c)] = some #[.slice x0 x0n x0c, .nilIface] := by kernel_rfl
theorem bld_356_0_1 {x0 : Option Addr} {x0n x0c : Nat} {x1t : TypeId} {x1v : Value} : Tryz.prog.built 356 [(0, .slice x0 x0n x0c), (1, .iface x1t x1v)] = some #[.slice x0 x0n x0c, .iface x1t x1v] := by kernel_rfl
theorem bld_359_0 {x0 : Int} : Tryz.prog.built 359 [(0, .int .i64 x0)] = some #[.int .i64 x0, .nilIface, .slice none 0 0, .slice none 0 0] := by kernel_rfl
theorem bld_362_0_1_2 {x0 : Option Addr} {x0n x0c : Nat} {x1t : TypeId} {x1v : Value} {x2 : Option Addr} {x2n x2c : Nat} : Tryz.prog.built 362 [(0, .slice x0 x0n x0c), (1, .iface x1t x1v), (2, .slice x2 x2n x2c)] = some #[.slice x0 x0n x0c, .iface x1t x1v, .slice x2 x2n x2c] := by kernel_rfl
theorem bld_365_0_1_2 {x0 : Option Addr} {x1 : Option Addr} {x1n x1c : Nat} {x2 : Option Addr} {x2n x2c : Nat} : Tryz.prog.built 365 [(0, .pointer x0), (1, .slice x1 x1n x1c), (2, .slice x2 x2n x2c)] = some #[.pointer x0, .slice x1 x1n x1c, .slice x2 x2n x2c] := by kernel_rfl
theorem bld_367_0_1_2 {x0 : Int} {x1 : Int} {x2 : Int} : Tryz.prog.built 367 [(0, .int .i64 x0), (1, .int .i64 x1), (2, .int .u64 x2)] = some #[.int .i64 x0, .int .i64 x1, .int .u64 x2] := by kernel_rfl
theorem bld_371_0_1_2_3_4 {x0 : Int} {x1 : Int} {x2 : Int} {x3t : TypeId} {x3v : Value} {x4t : TypeId} {x4v : Value} : Tryz.prog.built 371 [(0, .int .i64 x0), (1, .int .i64 x1), (2, .int .u64 x2), (3, .iface x3t x3v), (4, .iface x4t x4v)] = some #[.int .i64 x0, .int .i64 x1, .int .u64 x2, .iface x3t x3v, .iface x4t x4v] := by kernel_rfl
theorem bld_373_0 {x0 : Int} : Tryz.prog.built 373 [(0, .int .i64 x0)] = some #[.int .i64 x0, .nilIface, .nilIface] := by kernel_rfl
theorem bld_375_0_1 {x0 : Int} {x1 : ByteArray} : Tryz.prog.built 375 [(0, .int .i64 x0), (1, .string x1)] = some #[.int .i64 x0, .string x1] := by kernel_rfl
theorem bld_377_0_1_2 {x0 : Int} {x1t : TypeId} {x1v : Value} {x2t : TypeId} {x2v : Value} : Tryz.prog.built 377 [(0, .int .i64 x0), (1, .iface x1t x1v), (2, .iface x2t x2v)] = some #[.int .i64 x0, .iface x1t x1v, .iface x2t x2v] := by kernel_rfl
theorem bld_380_0_1_2 {x0 : Int} {x1t : TypeId} {x1v : Value} {x2 : Option Addr} {x2n x2c : Nat} : Tryz.prog.built 380 [(0, .int .i64 x0), (1, .iface x1t x1v), (2, .slice x2 x2n x2c)] = some #[.int .i64 x0, .iface x1t x1v, .slice x2 x2n x2c] := by kernel_rfl
theorem bld_383_0_1 {x0 : Int} {x1 : Int} : Tryz.prog.built 383 [(0, .int .i64 x0), (1, .int .i64 x1)] = some #[.int .i64 x0, .int .i64 x1] := by kernel_rfl
theorem bld_386_0_1 {x0 : Int} {x1 : Int} : Tryz.prog.built 386 [(0, .int .i64 x0), (1, .int .u64 x1)] = some #[.int .i64 x0, .int .u64 x1] := by kernel_rfl
theorem bld_388_0_1_2_3 {x0 : Int} {x1 : Int} {x2 : Option Addr} {x2n x2c : Nat} {x3 : Option Addr} {x3n x3c : Nat} : Tryz.prog.built 388 [(0, .int .i64 x0), (1, .int .i64 x1), (2, .slice x2 x2n x2c), (3, .slice x3 x3n x3c)] = some #[.int .i64 x0, .int .i64 x1, .slice x2 x2n x2c, .slice x3 x3n x3c] := by kernel_rfl
theorem bld_391_0_1 {x0 : Int} {x1 : Option Addr} {x1n x1c : Nat} : Tryz.prog.built 391 [(0, .int .i64 x0), (1, .slice x1 x1n x1c)] = some #[.int .i64 x0, .slice x1 x1n x1c] := by kernel_rfl
theorem bld_394_0_1_2 {x0 : Int} {x1 : Int} {x2t : TypeId} {x2v : Value} : Tryz.prog.built 394 [(0, .int .i64 x0), (1, .int .u64 x1), (2, .iface x2t x2v)] = some #[.int .i64 x0, .int .u64 x1, .iface x2t x2v] := by kernel_rfl
theorem bld_413_0_1 {x0 : Int} {x1 : Int} : Tryz.prog.built 413 [(0, .int .i64 x0), (1, .int .i64 x1)] = some #[.int .i64 x0, .int .i64 x1, .int .i64 0, .int .u64 0, S []] := by kernel_rfl
theorem by_1 : ((Tryz.prog.info? 1).any fun i => i.bytes == 8) = true := by kernel_rfl
theorem by_3 : ((Tryz.prog.info? 3).any fun i => i.bytes == 8) = true := by kernel_rfl
theorem by_5 : ((Tryz.prog.info? 5).any fun i => i.bytes == 1) = true := by kernel_rfl
theorem by_9 : ((Tryz.prog.info? 9).any fun i => i.bytes == 16) = true := by kernel_rfl
theorem by_21 : ((Tryz.prog.info? 21).any fun i => i.bytes == 4) = true := by kernel_rfl
theorem by_22 : ((Tryz.prog.info? 22).any fun i => i.bytes == 8) = true := by kernel_rfl
theorem by_24 : ((Tryz.prog.info? 24).any fun i => i.bytes == 8) = true := by kernel_rfl
theorem by_29 : ((Tryz.prog.info? 29).any fun i => i.bytes == 8) = true := by kernel_rfl
theorem by_119 : ((Tryz.prog.info? 119).any fun i => i.bytes == 32) = true := by kernel_rfl
theorem by_122 : ((Tryz.prog.info? 122).any fun i => i.bytes == 16) = true := by kernel_rfl
theorem by_123 : ((Tryz.prog.info? 123).any fun i => i.bytes == 8) = true := by kernel_rfl
theorem by_139 : ((Tryz.prog.info? 139).any fun i => i.bytes == 32) = true := by kernel_rfl
theorem by_148 : ((Tryz.prog.info? 148).any fun i => i.bytes == 72) = true := by kernel_rfl
theorem by_154 : ((Tryz.prog.info? 154).any fun i => i.bytes == 64) = true := by kernel_rfl
theorem by_155 : ((Tryz.prog.info? 155).any fun i => i.bytes == 24) = true := by kernel_rfl
theorem by_161 : ((Tryz.prog.info? 161).any fun i => i.bytes == 32) = true := by kernel_rfl
theorem by_182 : ((Tryz.prog.info? 182).any fun i => i.bytes == 48) = true := by kernel_rfl
theorem by_199 : ((Tryz.prog.info? 199).any fun i => i.bytes == 168) = true := by kernel_rfl
theorem by_203 : ((Tryz.prog.info? 203).any fun i => i.bytes == 4) = true := by kernel_rfl
theorem by_205 : ((Tryz.prog.info? 205).any fun i => i.bytes == 2) = true := by kernel_rfl
theorem by_209 : ((Tryz.prog.info? 209).any fun i => i.bytes == 24) = true := by kernel_rfl
theorem by_242 : ((Tryz.prog.info? 242).any fun i => i.bytes == 16) = true := by kernel_rfl
theorem by_251 : ((Tryz.prog.info? 251).any fun i => i.bytes == 80) = true := by kernel_rfl
theorem by_258 : ((Tryz.prog.info? 258).any fun i => i.bytes == 64) = true := by kernel_rfl
theorem by_263 : ((Tryz.prog.info? 263).any fun i => i.bytes == 64) = true := by kernel_rfl
theorem by_269 : ((Tryz.prog.info? 269).any fun i => i.bytes == 88) = true := by kernel_rfl
theorem by_278 : ((Tryz.prog.info? 278).any fun i => i.bytes == 32) = true := by kernel_rfl
theorem by_319 : ((Tryz.prog.info? 319).any fun i => i.bytes == 2) = true := by kernel_rfl
theorem by_322 : ((Tryz.prog.info? 322).any fun i => i.bytes == 4) = true := by kernel_rfl
theorem by_331 : ((Tryz.prog.info? 331).any fun i => i.bytes == 40) = true := by kernel_rfl
theorem by_367 : ((Tryz.prog.info? 367).any fun i => i.bytes == 24) = true := by kernel_rfl
theorem by_413 : ((Tryz.prog.info? 413).any fun i => i.bytes == 48) = true := by kernel_rfl
theorem en_5 : Enters Tryz.prog 5 := enters_of Tryz.func5 (by kernel_rfl) (by kernel_rfl)
theorem en_6 : Enters Tryz.prog 6 := enters_of Tryz.func6 (by kernel_rfl) (by kernel_rfl)
theorem en_7 : Enters Tryz.prog 7 := enters_of Tryz.func7 (by kernel_rfl) (by kernel_rfl)
theorem en_8 : Enters Tryz.prog 8 := enters_of Tryz.func8 (by kernel_rfl) (by kernel_rfl)
theorem en_9 : Enters Tryz.prog 9 := enters_of Tryz.func9 (by kernel_rfl) (by kernel_rfl)
theorem en_10 : Enters Tryz.prog 10 := enters_of Tryz.func10 (by kernel_rfl) (by kernel_rfl)
theorem en_11 : Enters Tryz.prog 11 := enters_of Tryz.func11 (by kernel_rfl) (by kernel_rfl)
theorem en_12 : Enters Tryz.prog 12 := enters_of Tryz.func12 (by kernel_rfl) (by kernel_rfl)
theorem en_13 : Enters Tryz.prog 13 := enters_of Tryz.func13 (by kernel_rfl) (by kernel_rfl)
theorem en_14 : Enters Tryz.prog 14 := enters_of Tryz.func14 (by kernel_rfl) (by kernel_rfl)
theorem en_15 : Enters Tryz.prog 15 := enters_of Tryz.func15 (by kernel_rfl) (by kernel_rfl)
theorem en_16 : Enters Tryz.prog 16 := enters_of Tryz.func16 (by kernel_rfl) (by kernel_rfl)
theorem en_17 : Enters Tryz.prog 17 := enters_of Tryz.func17 (by kernel_rfl) (by kernel_rfl)
theorem en_18 : Enters Tryz.prog 18 := enters_of Tryz.func18 (by kernel_rfl) (by kernel_rfl)
theorem en_19 : Enters Tryz.prog 19 := enters_of Tryz.func19 (by kernel_rfl) (by kernel_rfl)
theorem en_20 : Enters Tryz.prog 20 := enters_of Tryz.func20 (by kernel_rfl) (by kernel_rfl)
theorem en_21 : Enters Tryz.prog 21 := enters_of Tryz.func21 (by kernel_rfl) (by kernel_rfl)
theorem en_22 : Enters Tryz.prog 22 := enters_of Tryz.func22 (by kernel_rfl) (by kernel_rfl)
theorem en_23 : Enters Tryz.prog 23 := enters_of Tryz.func23 (by kernel_rfl) (by kernel_rfl)
theorem en_24 : Enters Tryz.prog 24 := enters_of Tryz.func24 (by kernel_rfl) (by kernel_rfl)
theorem en_25 : Enters Tryz.prog 25 := enters_of Tryz.func25 (by kernel_rfl) (by kernel_rfl)
theorem en_26 : Enters Tryz.prog 26 := enters_of Tryz.func26 (by kernel_rfl) (by kernel_rfl)
theorem en_27 : Enters Tryz.prog 27 := enters_of Tryz.func27 (by kernel_rfl) (by kernel_rfl)
theorem en_28 : Enters Tryz.prog 28 := enters_of Tryz.func28 (by kernel_rfl) (by kernel_rfl)
theorem en_29 : Enters Tryz.prog 29 := enters_of Tryz.func29 (by kernel_rfl) (by kernel_rfl)
theorem en_30 : Enters Tryz.prog 30 := enters_of Tryz.func30 (by kernel_rfl) (by kernel_rfl)
theorem en_31 : Enters Tryz.prog 31 := enters_of Tryz.func31 (by kernel_rfl) (by kernel_rfl)
theorem en_32 : Enters Tryz.prog 32 := enters_of Tryz.func32 (by kernel_rfl) (by kernel_rfl)
theorem en_33 : Enters Tryz.prog 33 := enters_of Tryz.func33 (by kernel_rfl) (by kernel_rfl)
theorem en_34 : Enters Tryz.prog 34 := enters_of Tryz.func34 (by kernel_rfl) (by kernel_rfl)
theorem en_35 : Enters Tryz.prog 35 := enters_of Tryz.func35 (by kernel_rfl) (by kernel_rfl)
theorem en_36 : Enters Tryz.prog 36 := enters_of Tryz.func36 (by kernel_rfl) (by kernel_rfl)
theorem en_37 : Enters Tryz.prog 37 := enters_of Tryz.func37 (by kernel_rfl) (by kernel_rfl)
theorem en_38 : Enters Tryz.prog 38 := enters_of Tryz.func38 (by kernel_rfl) (by kernel_rfl)
theorem en_39 : Enters Tryz.prog 39 := enters_of Tryz.func39 (by kernel_rfl) (by kernel_rfl)
theorem en_40 : Enters Tryz.prog 40 := enters_of Tryz.func40 (by kernel_rfl) (by kernel_rfl)
theorem en_41 : Enters Tryz.prog 41 := enters_of Tryz.func41 (by kernel_rfl) (by kernel_rfl)
theorem en_42 : Enters Tryz.prog 42 := enters_of Tryz.func42 (by kernel_rfl) (by kernel_rfl)
theorem en_43 : Enters Tryz.prog 43 := enters_of Tryz.func43 (by kernel_rfl) (by kernel_rfl)
theorem en_44 : Enters Tryz.prog 44 := enters_of Tryz.func44 (by kernel_rfl) (by kernel_rfl)
theorem en_45 : Enters Tryz.prog 45 := enters_of Tryz.func45 (by kernel_rfl) (by kernel_rfl)
theorem en_46 : Enters Tryz.prog 46 := enters_of Tryz.func46 (by kernel_rfl) (by kernel_rfl)
theorem en_47 : Enters Tryz.prog 47 := enters_of Tryz.func47 (by kernel_rfl) (by kernel_rfl)
theorem en_48 : Enters Tryz.prog 48 := enters_of Tryz.func48 (by kernel_rfl) (by kernel_rfl)
theorem en_49 : Enters Tryz.prog 49 := enters_of Tryz.func49 (by kernel_rfl) (by kernel_rfl)
theorem en_50 : Enters Tryz.prog 50 := enters_of Tryz.func50 (by kernel_rfl) (by kernel_rfl)
theorem en_51 : Enters Tryz.prog 51 := enters_of Tryz.func51 (by kernel_rfl) (by kernel_rfl)
theorem en_52 : Enters Tryz.prog 52 := enters_of Tryz.func52 (by kernel_rfl) (by kernel_rfl)
theorem en_53 : Enters Tryz.prog 53 := enters_of Tryz.func53 (by kernel_rfl) (by kernel_rfl)
theorem en_54 : Enters Tryz.prog 54 := enters_of Tryz.func54 (by kernel_rfl) (by kernel_rfl)
theorem en_55 : Enters Tryz.prog 55 := enters_of Tryz.func55 (by kernel_rfl) (by kernel_rfl)
theorem en_56 : Enters Tryz.prog 56 := enters_of Tryz.func56 (by kernel_rfl) (by kernel_rfl)
theorem en_57 : Enters Tryz.prog 57 := enters_of Tryz.func57 (by kernel_rfl) (by kernel_rfl)
theorem en_58 : Enters Tryz.prog 58 := enters_of Tryz.func58 (by kernel_rfl) (by kernel_rfl)
theorem en_59 : Enters Tryz.prog 59 := enters_of Tryz.func59 (by kernel_rfl) (by kernel_rfl)
theorem en_60 : Enters Tryz.prog 60 := enters_of Tryz.func60 (by kernel_rfl) (by kernel_rfl)
theorem en_61 : Enters Tryz.prog 61 := enters_of Tryz.func61 (by kernel_rfl) (by kernel_rfl)
theorem en_62 : Enters Tryz.prog 62 := enters_of Tryz.func62 (by kernel_rfl) (by kernel_rfl)
theorem en_63 : Enters Tryz.prog 63 := enters_of Tryz.func63 (by kernel_rfl) (by kernel_rfl)
theorem en_64 : Enters Tryz.prog 64 := enters_of Tryz.func64 (by kernel_rfl) (by kernel_rfl)
theorem en_65 : Enters Tryz.prog 65 := enters_of Tryz.func65 (by kernel_rfl) (by kernel_rfl)
theorem en_66 : Enters Tryz.prog 66 := enters_of Tryz.func66 (by kernel_rfl) (by kernel_rfl)
theorem en_67 : Enters Tryz.prog 67 := enters_of Tryz.func67 (by kernel_rfl) (by kernel_rfl)
theorem en_68 : Enters Tryz.prog 68 := enters_of Tryz.func68 (by kernel_rfl) (by kernel_rfl)
theorem en_69 : Enters Tryz.prog 69 := enters_of Tryz.func69 (by kernel_rfl) (by kernel_rfl)
theorem en_70 : Enters Tryz.prog 70 := enters_of Tryz.func70 (by kernel_rfl) (by kernel_rfl)
theorem en_71 : Enters Tryz.prog 71 := enters_of Tryz.func71 (by kernel_rfl) (by kernel_rfl)
theorem en_72 : Enters Tryz.prog 72 := enters_of Tryz.func72 (by kernel_rfl) (by kernel_rfl)
theorem en_73 : Enters Tryz.prog 73 := enters_of Tryz.func73 (by kernel_rfl) (by kernel_rfl)
theorem en_74 : Enters Tryz.prog 74 := enters_of Tryz.func74 (by kernel_rfl) (by kernel_rfl)
theorem en_75 : Enters Tryz.prog 75 := enters_of Tryz.func75 (by kernel_rfl) (by kernel_rfl)
theorem en_76 : Enters Tryz.prog 76 := enters_of Tryz.func76 (by kernel_rfl) (by kernel_rfl)
theorem en_77 : Enters Tryz.prog 77 := enters_of Tryz.func77 (by kernel_rfl) (by kernel_rfl)
theorem en_78 : Enters Tryz.prog 78 := enters_of Tryz.func78 (by kernel_rfl) (by kernel_rfl)
theorem en_79 : Enters Tryz.prog 79 := enters_of Tryz.func79 (by kernel_rfl) (by kernel_rfl)
theorem en_80 : Enters Tryz.prog 80 := enters_of Tryz.func80 (by kernel_rfl) (by kernel_rfl)
theorem en_81 : Enters Tryz.prog 81 := enters_of Tryz.func81 (by kernel_rfl) (by kernel_rfl)
theorem en_82 : Enters Tryz.prog 82 := enters_of Tryz.func82 (by kernel_rfl) (by kernel_rfl)
theorem en_83 : Enters Tryz.prog 83 := enters_of Tryz.func83 (by kernel_rfl) (by kernel_rfl)
theorem en_84 : Enters Tryz.prog 84 := enters_of Tryz.func84 (by kernel_rfl) (by kernel_rfl)
theorem en_85 : Enters Tryz.prog 85 := enters_of Tryz.func85 (by kernel_rfl) (by kernel_rfl)
theorem en_86 : Enters Tryz.prog 86 := enters_of Tryz.func86 (by kernel_rfl) (by kernel_rfl)
theorem en_87 : Enters Tryz.prog 87 := enters_of Tryz.func87 (by kernel_rfl) (by kernel_rfl)
theorem en_88 : Enters Tryz.prog 88 := enters_of Tryz.func88 (by kernel_rfl) (by kernel_rfl)
theorem en_89 : Enters Tryz.prog 89 := enters_of Tryz.func89 (by kernel_rfl) (by kernel_rfl)
theorem en_90 : Enters Tryz.prog 90 := enters_of Tryz.func90 (by kernel_rfl) (by kernel_rfl)
theorem en_91 : Enters Tryz.prog 91 := enters_of Tryz.func91 (by kernel_rfl) (by kernel_rfl)
theorem en_92 : Enters Tryz.prog 92 := enters_of Tryz.func92 (by kernel_rfl) (by kernel_rfl)
theorem en_93 : Enters Tryz.prog 93 := enters_of Tryz.func93 (by kernel_rfl) (by kernel_rfl)
theorem en_94 : Enters Tryz.prog 94 := enters_of Tryz.func94 (by kernel_rfl) (by kernel_rfl)
theorem en_95 : Enters Tryz.prog 95 := enters_of Tryz.func95 (by kernel_rfl) (by kernel_rfl)
theorem en_96 : Enters Tryz.prog 96 := enters_of Tryz.func96 (by kernel_rfl) (by kernel_rfl)
theorem en_97 : Enters Tryz.prog 97 := enters_of Tryz.func97 (by kernel_rfl) (by kernel_rfl)
theorem en_98 : Enters Tryz.prog 98 := enters_of Tryz.func98 (by kernel_rfl) (by kernel_rfl)
theorem en_99 : Enters Tryz.prog 99 := enters_of Tryz.func99 (by kernel_rfl) (by kernel_rfl)
theorem en_100 : Enters Tryz.prog 100 := enters_of Tryz.func100 (by kernel_rfl) (by kernel_rfl)
theorem en_101 : Enters Tryz.prog 101 := enters_of Tryz.func101 (by kernel_rfl) (by kernel_rfl)
theorem en_102 : Enters Tryz.prog 102 := enters_of Tryz.func102 (by kernel_rfl) (by kernel_rfl)
theorem en_103 : Enters Tryz.prog 103 := enters_of Tryz.func103 (by kernel_rfl) (by kernel_rfl)
theorem en_104 : Enters Tryz.prog 104 := enters_of Tryz.func104 (by kernel_rfl) (by kernel_rfl)
theorem en_105 : Enters Tryz.prog 105 := enters_of Tryz.func105 (by kernel_rfl) (by kernel_rfl)
theorem en_106 : Enters Tryz.prog 106 := enters_of Tryz.func106 (by kernel_rfl) (by kernel_rfl)
theorem en_107 : Enters Tryz.prog 107 := enters_of Tryz.func107 (by kernel_rfl) (by kernel_rfl)
theorem en_108 : Enters Tryz.prog 108 := enters_of Tryz.func108 (by kernel_rfl) (by kernel_rfl)
theorem en_109 : Enters Tryz.prog 109 := enters_of Tryz.func109 (by kernel_rfl) (by kernel_rfl)
theorem en_110 : Enters Tryz.prog 110 := enters_of Tryz.func110 (by kernel_rfl) (by kernel_rfl)
theorem en_111 : Enters Tryz.prog 111 := enters_of Tryz.func111 (by kernel_rfl) (by kernel_rfl)
theorem en_112 : Enters Tryz.prog 112 := enters_of Tryz.func112 (by kernel_rfl) (by kernel_rfl)
theorem en_113 : Enters Tryz.prog 113 := enters_of Tryz.func113 (by kernel_rfl) (by kernel_rfl)
theorem en_114 : Enters Tryz.prog 114 := enters_of Tryz.func114 (by kernel_rfl) (by kernel_rfl)
theorem en_115 : Enters Tryz.prog 115 := enters_of Tryz.func115 (by kernel_rfl) (by kernel_rfl)
theorem en_116 : Enters Tryz.prog 116 := enters_of Tryz.func116 (by kernel_rfl) (by kernel_rfl)
theorem en_117 : Enters Tryz.prog 117 := enters_of Tryz.func117 (by kernel_rfl) (by kernel_rfl)
theorem en_118 : Enters Tryz.prog 118 := enters_of Tryz.func118 (by kernel_rfl) (by kernel_rfl)
theorem en_119 : Enters Tryz.prog 119 := enters_of Tryz.func119 (by kernel_rfl) (by kernel_rfl)
theorem en_120 : Enters Tryz.prog 120 := enters_of Tryz.func120 (by kernel_rfl) (by kernel_rfl)
theorem en_121 : Enters Tryz.prog 121 := enters_of Tryz.func121 (by kernel_rfl) (by kernel_rfl)
theorem en_122 : Enters Tryz.prog 122 := enters_of Tryz.func122 (by kernel_rfl) (by kernel_rfl)
theorem en_123 : Enters Tryz.prog 123 := enters_of Tryz.func123 (by kernel_rfl) (by kernel_rfl)
theorem en_124 : Enters Tryz.prog 124 := enters_of Tryz.func124 (by kernel_rfl) (by kernel_rfl)
theorem en_125 : Enters Tryz.prog 125 := enters_of Tryz.func125 (by kernel_rfl) (by kernel_rfl)
theorem en_126 : Enters Tryz.prog 126 := enters_of Tryz.func126 (by kernel_rfl) (by kernel_rfl)
theorem en_127 : Enters Tryz.prog 127 := enters_of Tryz.func127 (by kernel_rfl) (by kernel_rfl)
theorem en_128 : Enters Tryz.prog 128 := enters_of Tryz.func128 (by kernel_rfl) (by kernel_rfl)
theorem en_129 : Enters Tryz.prog 129 := enters_of Tryz.func129 (by kernel_rfl) (by kernel_rfl)
theorem en_130 : Enters Tryz.prog 130 := enters_of Tryz.func130 (by kernel_rfl) (by kernel_rfl)
theorem en_131 : Enters Tryz.prog 131 := enters_of Tryz.func131 (by kernel_rfl) (by kernel_rfl)
theorem en_132 : Enters Tryz.prog 132 := enters_of Tryz.func132 (by kernel_rfl) (by kernel_rfl)
theorem en_133 : Enters Tryz.prog 133 := enters_of Tryz.func133 (by kernel_rfl) (by kernel_rfl)
theorem en_134 : Enters Tryz.prog 134 := enters_of Tryz.func134 (by kernel_rfl) (by kernel_rfl)
theorem en_135 : Enters Tryz.prog 135 := enters_of Tryz.func135 (by kernel_rfl) (by kernel_rfl)
theorem en_136 : Enters Tryz.prog 136 := enters_of Tryz.func136 (by kernel_rfl) (by kernel_rfl)
theorem en_137 : Enters Tryz.prog 137 := enters_of Tryz.func137 (by kernel_rfl) (by kernel_rfl)
theorem en_138 : Enters Tryz.prog 138 := enters_of Tryz.func138 (by kernel_rfl) (by kernel_rfl)
theorem en_140 : Enters Tryz.prog 140 := enters_of Tryz.func140 (by kernel_rfl) (by kernel_rfl)
theorem en_141 : Enters Tryz.prog 141 := enters_of Tryz.func141 (by kernel_rfl) (by kernel_rfl)
theorem en_142 : Enters Tryz.prog 142 := enters_of Tryz.func142 (by kernel_rfl) (by kernel_rfl)
theorem en_143 : Enters Tryz.prog 143 := enters_of Tryz.func143 (by kernel_rfl) (by kernel_rfl)
theorem en_144 : Enters Tryz.prog 144 := enters_of Tryz.func144 (by kernel_rfl) (by kernel_rfl)
theorem en_145 : Enters Tryz.prog 145 := enters_of Tryz.func145 (by kernel_rfl) (by kernel_rfl)
theorem en_146 : Enters Tryz.prog 146 := enters_of Tryz.func146 (by kernel_rfl) (by kernel_rfl)
theorem en_147 : Enters Tryz.prog 147 := enters_of Tryz.func147 (by kernel_rfl) (by kernel_rfl)
theorem en_148 : Enters Tryz.prog 148 := enters_of Tryz.func148 (by kernel_rfl) (by kernel_rfl)
theorem en_149 : Enters Tryz.prog 149 := enters_of Tryz.func149 (by kernel_rfl) (by kernel_rfl)
theorem en_150 : Enters Tryz.prog 150 := enters_of Tryz.func150 (by kernel_rfl) (by kernel_rfl)
theorem en_151 : Enters Tryz.prog 151 := enters_of Tryz.func151 (by kernel_rfl) (by kernel_rfl)
theorem en_152 : Enters Tryz.prog 152 := enters_of Tryz.func152 (by kernel_rfl) (by kernel_rfl)
theorem en_153 : Enters Tryz.prog 153 := enters_of Tryz.func153 (by kernel_rfl) (by kernel_rfl)
theorem en_154 : Enters Tryz.prog 154 := enters_of Tryz.func154 (by kernel_rfl) (by kernel_rfl)
theorem en_155 : Enters Tryz.prog 155 := enters_of Tryz.func155 (by kernel_rfl) (by kernel_rfl)
theorem en_156 : Enters Tryz.prog 156 := enters_of Tryz.func156 (by kernel_rfl) (by kernel_rfl)
theorem en_157 : Enters Tryz.prog 157 := enters_of Tryz.func157 (by kernel_rfl) (by kernel_rfl)
theorem en_158 : Enters Tryz.prog 158 := enters_of Tryz.func158 (by kernel_rfl) (by kernel_rfl)
theorem en_159 : Enters Tryz.prog 159 := enters_of Tryz.func159 (by kernel_rfl) (by kernel_rfl)
theorem en_160 : Enters Tryz.prog 160 := enters_of Tryz.func160 (by kernel_rfl) (by kernel_rfl)
theorem en_161 : Enters Tryz.prog 161 := enters_of Tryz.func161 (by kernel_rfl) (by kernel_rfl)
theorem en_162 : Enters Tryz.prog 162 := enters_of Tryz.func162 (by kernel_rfl) (by kernel_rfl)
theorem en_163 : Enters Tryz.prog 163 := enters_of Tryz.func163 (by kernel_rfl) (by kernel_rfl)
theorem en_164 : Enters Tryz.prog 164 := enters_of Tryz.func164 (by kernel_rfl) (by kernel_rfl)
theorem en_165 : Enters Tryz.prog 165 := enters_of Tryz.func165 (by kernel_rfl) (by kernel_rfl)
theorem en_166 : Enters Tryz.prog 166 := enters_of Tryz.func166 (by kernel_rfl) (by kernel_rfl)
theorem en_167 : Enters Tryz.prog 167 := enters_of Tryz.func167 (by kernel_rfl) (by kernel_rfl)
theorem en_168 : Enters Tryz.prog 168 := enters_of Tryz.func168 (by kernel_rfl) (by kernel_rfl)
theorem en_169 : Enters Tryz.prog 169 := enters_of Tryz.func169 (by kernel_rfl) (by kernel_rfl)
theorem en_170 : Enters Tryz.prog 170 := enters_of Tryz.func170 (by kernel_rfl) (by kernel_rfl)
theorem en_171 : Enters Tryz.prog 171 := enters_of Tryz.func171 (by kernel_rfl) (by kernel_rfl)
theorem en_172 : Enters Tryz.prog 172 := enters_of Tryz.func172 (by kernel_rfl) (by kernel_rfl)
theorem en_173 : Enters Tryz.prog 173 := enters_of Tryz.func173 (by kernel_rfl) (by kernel_rfl)
theorem en_174 : Enters Tryz.prog 174 := enters_of Tryz.func174 (by kernel_rfl) (by kernel_rfl)
theorem en_176 : Enters Tryz.prog 176 := enters_of Tryz.func176 (by kernel_rfl) (by kernel_rfl)
theorem en_177 : Enters Tryz.prog 177 := enters_of Tryz.func177 (by kernel_rfl) (by kernel_rfl)
theorem en_178 : Enters Tryz.prog 178 := enters_of Tryz.func178 (by kernel_rfl) (by kernel_rfl)
theorem en_179 : Enters Tryz.prog 179 := enters_of Tryz.func179 (by kernel_rfl) (by kernel_rfl)
theorem en_180 : Enters Tryz.prog 180 := enters_of Tryz.func180 (by kernel_rfl) (by kernel_rfl)
theorem en_181 : Enters Tryz.prog 181 := enters_of Tryz.func181 (by kernel_rfl) (by kernel_rfl)
theorem en_182 : Enters Tryz.prog 182 := enters_of Tryz.func182 (by kernel_rfl) (by kernel_rfl)
theorem en_183 : Enters Tryz.prog 183 := enters_of Tryz.func183 (by kernel_rfl) (by kernel_rfl)
theorem en_184 : Enters Tryz.prog 184 := enters_of Tryz.func184 (by kernel_rfl) (by kernel_rfl)
theorem en_185 : Enters Tryz.prog 185 := enters_of Tryz.func185 (by kernel_rfl) (by kernel_rfl)
theorem en_186 : Enters Tryz.prog 186 := enters_of Tryz.func186 (by kernel_rfl) (by kernel_rfl)
theorem en_187 : Enters Tryz.prog 187 := enters_of Tryz.func187 (by kernel_rfl) (by kernel_rfl)
theorem en_188 : Enters Tryz.prog 188 := enters_of Tryz.func188 (by kernel_rfl) (by kernel_rfl)
theorem en_189 : Enters Tryz.prog 189 := enters_of Tryz.func189 (by kernel_rfl) (by kernel_rfl)
theorem en_190 : Enters Tryz.prog 190 := enters_of Tryz.func190 (by kernel_rfl) (by kernel_rfl)
theorem en_191 : Enters Tryz.prog 191 := enters_of Tryz.func191 (by kernel_rfl) (by kernel_rfl)
theorem en_192 : Enters Tryz.prog 192 := enters_of Tryz.func192 (by kernel_rfl) (by kernel_rfl)
theorem en_193 : Enters Tryz.prog 193 := enters_of Tryz.func193 (by kernel_rfl) (by kernel_rfl)
theorem en_194 : Enters Tryz.prog 194 := enters_of Tryz.func194 (by kernel_rfl) (by kernel_rfl)
theorem en_195 : Enters Tryz.prog 195 := enters_of Tryz.func195 (by kernel_rfl) (by kernel_rfl)
theorem en_196 : Enters Tryz.prog 196 := enters_of Tryz.func196 (by kernel_rfl) (by kernel_rfl)
theorem en_197 : Enters Tryz.prog 197 := enters_of Tryz.func197 (by kernel_rfl) (by kernel_rfl)
theorem en_198 : Enters Tryz.prog 198 := enters_of Tryz.func198 (by kernel_rfl) (by kernel_rfl)
theorem en_200 : Enters Tryz.prog 200 := enters_of Tryz.func200 (by kernel_rfl) (by kernel_rfl)
theorem en_201 : Enters Tryz.prog 201 := enters_of Tryz.func201 (by kernel_rfl) (by kernel_rfl)
theorem en_202 : Enters Tryz.prog 202 := enters_of Tryz.func202 (by kernel_rfl) (by kernel_rfl)
theorem en_204 : Enters Tryz.prog 204 := enters_of Tryz.func204 (by kernel_rfl) (by kernel_rfl)
theorem en_205 : Enters Tryz.prog 205 := enters_of Tryz.func205 (by kernel_rfl) (by kernel_rfl)
theorem en_206 : Enters Tryz.prog 206 := enters_of Tryz.func206 (by kernel_rfl) (by kernel_rfl)
theorem en_207 : Enters Tryz.prog 207 := enters_of Tryz.func207 (by kernel_rfl) (by kernel_rfl)
theorem en_208 : Enters Tryz.prog 208 := enters_of Tryz.func208 (by kernel_rfl) (by kernel_rfl)
theorem en_209 : Enters Tryz.prog 209 := enters_of Tryz.func209 (by kernel_rfl) (by kernel_rfl)
theorem en_210 : Enters Tryz.prog 210 := enters_of Tryz.func210 (by kernel_rfl) (by kernel_rfl)
theorem en_211 : Enters Tryz.prog 211 := enters_of Tryz.func211 (by kernel_rfl) (by kernel_rfl)
theorem en_212 : Enters Tryz.prog 212 := enters_of Tryz.func212 (by kernel_rfl) (by kernel_rfl)
theorem en_213 : Enters Tryz.prog 213 := enters_of Tryz.func213 (by kernel_rfl) (by kernel_rfl)
theorem en_214 : Enters Tryz.prog 214 := enters_of Tryz.func214 (by kernel_rfl) (by kernel_rfl)
theorem en_215 : Enters Tryz.prog 215 := enters_of Tryz.func215 (by kernel_rfl) (by kernel_rfl)
theorem en_216 : Enters Tryz.prog 216 := enters_of Tryz.func216 (by kernel_rfl) (by kernel_rfl)
theorem en_217 : Enters Tryz.prog 217 := enters_of Tryz.func217 (by kernel_rfl) (by kernel_rfl)
theorem en_218 : Enters Tryz.prog 218 := enters_of Tryz.func218 (by kernel_rfl) (by kernel_rfl)
theorem en_219 : Enters Tryz.prog 219 := enters_of Tryz.func219 (by kernel_rfl) (by kernel_rfl)
theorem en_220 : Enters Tryz.prog 220 := enters_of Tryz.func220 (by kernel_rfl) (by kernel_rfl)
theorem en_221 : Enters Tryz.prog 221 := enters_of Tryz.func221 (by kernel_rfl) (by kernel_rfl)
theorem en_222 : Enters Tryz.prog 222 := enters_of Tryz.func222 (by kernel_rfl) (by kernel_rfl)
theorem en_223 : Enters Tryz.prog 223 := enters_of Tryz.func223 (by kernel_rfl) (by kernel_rfl)
theorem en_224 : Enters Tryz.prog 224 := enters_of Tryz.func224 (by kernel_rfl) (by kernel_rfl)
theorem en_225 : Enters Tryz.prog 225 := enters_of Tryz.func225 (by kernel_rfl) (by kernel_rfl)
theorem en_226 : Enters Tryz.prog 226 := enters_of Tryz.func226 (by kernel_rfl) (by kernel_rfl)
theorem en_227 : Enters Tryz.prog 227 := enters_of Tryz.func227 (by kernel_rfl) (by kernel_rfl)
theorem en_228 : Enters Tryz.prog 228 := enters_of Tryz.func228 (by kernel_rfl) (by kernel_rfl)
theorem en_229 : Enters Tryz.prog 229 := enters_of Tryz.func229 (by kernel_rfl) (by kernel_rfl)
theorem en_230 : Enters Tryz.prog 230 := enters_of Tryz.func230 (by kernel_rfl) (by kernel_rfl)
theorem en_231 : Enters Tryz.prog 231 := enters_of Tryz.func231 (by kernel_rfl) (by kernel_rfl)
theorem en_233 : Enters Tryz.prog 233 := enters_of Tryz.func233 (by kernel_rfl) (by kernel_rfl)
theorem en_234 : Enters Tryz.prog 234 := enters_of Tryz.func234 (by kernel_rfl) (by kernel_rfl)
theorem en_235 : Enters Tryz.prog 235 := enters_of Tryz.func235 (by kernel_rfl) (by kernel_rfl)
theorem en_236 : Enters Tryz.prog 236 := enters_of Tryz.func236 (by kernel_rfl) (by kernel_rfl)
theorem en_238 : Enters Tryz.prog 238 := enters_of Tryz.func238 (by kernel_rfl) (by kernel_rfl)
theorem en_239 : Enters Tryz.prog 239 := enters_of Tryz.func239 (by kernel_rfl) (by kernel_rfl)
theorem en_240 : Enters Tryz.prog 240 := enters_of Tryz.func240 (by kernel_rfl) (by kernel_rfl)
theorem en_241 : Enters Tryz.prog 241 := enters_of Tryz.func241 (by kernel_rfl) (by kernel_rfl)
theorem en_242 : Enters Tryz.prog 242 := enters_of Tryz.func242 (by kernel_rfl) (by kernel_rfl)
theorem en_243 : Enters Tryz.prog 243 := enters_of Tryz.func243 (by kernel_rfl) (by kernel_rfl)
theorem en_244 : Enters Tryz.prog 244 := enters_of Tryz.func244 (by kernel_rfl) (by kernel_rfl)
theorem en_245 : Enters Tryz.prog 245 := enters_of Tryz.func245 (by kernel_rfl) (by kernel_rfl)
theorem en_246 : Enters Tryz.prog 246 := enters_of Tryz.func246 (by kernel_rfl) (by kernel_rfl)
theorem en_247 : Enters Tryz.prog 247 := enters_of Tryz.func247 (by kernel_rfl) (by kernel_rfl)
theorem en_248 : Enters Tryz.prog 248 := enters_of Tryz.func248 (by kernel_rfl) (by kernel_rfl)
theorem en_249 : Enters Tryz.prog 249 := enters_of Tryz.func249 (by kernel_rfl) (by kernel_rfl)
theorem en_250 : Enters Tryz.prog 250 := enters_of Tryz.func250 (by kernel_rfl) (by kernel_rfl)
theorem en_251 : Enters Tryz.prog 251 := enters_of Tryz.func251 (by kernel_rfl) (by kernel_rfl)
theorem en_252 : Enters Tryz.prog 252 := enters_of Tryz.func252 (by kernel_rfl) (by kernel_rfl)
theorem en_253 : Enters Tryz.prog 253 := enters_of Tryz.func253 (by kernel_rfl) (by kernel_rfl)
theorem en_254 : Enters Tryz.prog 254 := enters_of Tryz.func254 (by kernel_rfl) (by kernel_rfl)
theorem en_255 : Enters Tryz.prog 255 := enters_of Tryz.func255 (by kernel_rfl) (by kernel_rfl)
theorem en_256 : Enters Tryz.prog 256 := enters_of Tryz.func256 (by kernel_rfl) (by kernel_rfl)
theorem en_258 : Enters Tryz.prog 258 := enters_of Tryz.func258 (by kernel_rfl) (by kernel_rfl)
theorem en_259 : Enters Tryz.prog 259 := enters_of Tryz.func259 (by kernel_rfl) (by kernel_rfl)
theorem en_260 : Enters Tryz.prog 260 := enters_of Tryz.func260 (by kernel_rfl) (by kernel_rfl)
theorem en_261 : Enters Tryz.prog 261 := enters_of Tryz.func261 (by kernel_rfl) (by kernel_rfl)
theorem en_262 : Enters Tryz.prog 262 := enters_of Tryz.func262 (by kernel_rfl) (by kernel_rfl)
theorem en_264 : Enters Tryz.prog 264 := enters_of Tryz.func264 (by kernel_rfl) (by kernel_rfl)
theorem en_265 : Enters Tryz.prog 265 := enters_of Tryz.func265 (by kernel_rfl) (by kernel_rfl)
theorem en_266 : Enters Tryz.prog 266 := enters_of Tryz.func266 (by kernel_rfl) (by kernel_rfl)
theorem en_267 : Enters Tryz.prog 267 := enters_of Tryz.func267 (by kernel_rfl) (by kernel_rfl)
theorem en_268 : Enters Tryz.prog 268 := enters_of Tryz.func268 (by kernel_rfl) (by kernel_rfl)
theorem en_269 : Enters Tryz.prog 269 := enters_of Tryz.func269 (by kernel_rfl) (by kernel_rfl)
theorem en_270 : Enters Tryz.prog 270 := enters_of Tryz.func270 (by kernel_rfl) (by kernel_rfl)
theorem en_271 : Enters Tryz.prog 271 := enters_of Tryz.func271 (by kernel_rfl) (by kernel_rfl)
theorem en_272 : Enters Tryz.prog 272 := enters_of Tryz.func272 (by kernel_rfl) (by kernel_rfl)
theorem en_273 : Enters Tryz.prog 273 := enters_of Tryz.func273 (by kernel_rfl) (by kernel_rfl)
theorem en_274 : Enters Tryz.prog 274 := enters_of Tryz.func274 (by kernel_rfl) (by kernel_rfl)
theorem en_275 : Enters Tryz.prog 275 := enters_of Tryz.func275 (by kernel_rfl) (by kernel_rfl)
theorem en_276 : Enters Tryz.prog 276 := enters_of Tryz.func276 (by kernel_rfl) (by kernel_rfl)
theorem en_277 : Enters Tryz.prog 277 := enters_of Tryz.func277 (by kernel_rfl) (by kernel_rfl)
theorem en_278 : Enters Tryz.prog 278 := enters_of Tryz.func278 (by kernel_rfl) (by kernel_rfl)
theorem en_279 : Enters Tryz.prog 279 := enters_of Tryz.func279 (by kernel_rfl) (by kernel_rfl)
theorem en_280 : Enters Tryz.prog 280 := enters_of Tryz.func280 (by kernel_rfl) (by kernel_rfl)
theorem en_281 : Enters Tryz.prog 281 := enters_of Tryz.func281 (by kernel_rfl) (by kernel_rfl)
theorem en_282 : Enters Tryz.prog 282 := enters_of Tryz.func282 (by kernel_rfl) (by kernel_rfl)
theorem en_283 : Enters Tryz.prog 283 := enters_of Tryz.func283 (by kernel_rfl) (by kernel_rfl)
theorem en_284 : Enters Tryz.prog 284 := enters_of Tryz.func284 (by kernel_rfl) (by kernel_rfl)
theorem en_285 : Enters Tryz.prog 285 := enters_of Tryz.func285 (by kernel_rfl) (by kernel_rfl)
theorem en_286 : Enters Tryz.prog 286 := enters_of Tryz.func286 (by kernel_rfl) (by kernel_rfl)
theorem en_287 : Enters Tryz.prog 287 := enters_of Tryz.func287 (by kernel_rfl) (by kernel_rfl)
theorem en_288 : Enters Tryz.prog 288 := enters_of Tryz.func288 (by kernel_rfl) (by kernel_rfl)
theorem en_289 : Enters Tryz.prog 289 := enters_of Tryz.func289 (by kernel_rfl) (by kernel_rfl)
theorem en_290 : Enters Tryz.prog 290 := enters_of Tryz.func290 (by kernel_rfl) (by kernel_rfl)
theorem en_291 : Enters Tryz.prog 291 := enters_of Tryz.func291 (by kernel_rfl) (by kernel_rfl)
theorem en_292 : Enters Tryz.prog 292 := enters_of Tryz.func292 (by kernel_rfl) (by kernel_rfl)
theorem en_293 : Enters Tryz.prog 293 := enters_of Tryz.func293 (by kernel_rfl) (by kernel_rfl)
theorem en_294 : Enters Tryz.prog 294 := enters_of Tryz.func294 (by kernel_rfl) (by kernel_rfl)
theorem en_296 : Enters Tryz.prog 296 := enters_of Tryz.func296 (by kernel_rfl) (by kernel_rfl)
theorem en_297 : Enters Tryz.prog 297 := enters_of Tryz.func297 (by kernel_rfl) (by kernel_rfl)
theorem en_298 : Enters Tryz.prog 298 := enters_of Tryz.func298 (by kernel_rfl) (by kernel_rfl)
theorem en_299 : Enters Tryz.prog 299 := enters_of Tryz.func299 (by kernel_rfl) (by kernel_rfl)
theorem en_300 : Enters Tryz.prog 300 := enters_of Tryz.func300 (by kernel_rfl) (by kernel_rfl)
theorem en_301 : Enters Tryz.prog 301 := enters_of Tryz.func301 (by kernel_rfl) (by kernel_rfl)
theorem en_303 : Enters Tryz.prog 303 := enters_of Tryz.func303 (by kernel_rfl) (by kernel_rfl)
theorem en_304 : Enters Tryz.prog 304 := enters_of Tryz.func304 (by kernel_rfl) (by kernel_rfl)
theorem en_305 : Enters Tryz.prog 305 := enters_of Tryz.func305 (by kernel_rfl) (by kernel_rfl)
theorem en_307 : Enters Tryz.prog 307 := enters_of Tryz.func307 (by kernel_rfl) (by kernel_rfl)
theorem fo_53_0 : foffB Tryz.prog 53 0 0 = true := by kernel_rfl
theorem fo_53_1 : foffB Tryz.prog 53 1 1 = true := by kernel_rfl
theorem fo_53_2 : foffB Tryz.prog 53 2 2 = true := by kernel_rfl
theorem fo_56_0 : foffB Tryz.prog 56 0 0 = true := by kernel_rfl
theorem fo_56_1 : foffB Tryz.prog 56 1 1 = true := by kernel_rfl
theorem fo_56_4 : foffB Tryz.prog 56 4 4 = true := by kernel_rfl
theorem fo_61_0 : foffB Tryz.prog 61 0 0 = true := by kernel_rfl
theorem fo_61_1 : foffB Tryz.prog 61 1 1 = true := by kernel_rfl
theorem fo_61_2 : foffB Tryz.prog 61 2 2 = true := by kernel_rfl
theorem fo_61_3 : foffB Tryz.prog 61 3 3 = true := by kernel_rfl
theorem fo_61_4 : foffB Tryz.prog 61 4 4 = true := by kernel_rfl
theorem fo_61_5 : foffB Tryz.prog 61 5 5 = true := by kernel_rfl
theorem fo_68_0 : foffB Tryz.prog 68 0 0 = true := by kernel_rfl
theorem fo_68_1 : foffB Tryz.prog 68 1 1 = true := by kernel_rfl
theorem fo_68_2 : foffB Tryz.prog 68 2 2 = true := by kernel_rfl
theorem fo_68_3 : foffB Tryz.prog 68 3 3 = true := by kernel_rfl
theorem fo_72_0 : foffB Tryz.prog 72 0 0 = true := by kernel_rfl
theorem fo_75_0 : foffB Tryz.prog 75 0 0 = true := by kernel_rfl
theorem fo_75_1 : foffB Tryz.prog 75 1 1 = true := by kernel_rfl
theorem fo_75_2 : foffB Tryz.prog 75 2 2 = true := by kernel_rfl
theorem fo_79_0 : foffB Tryz.prog 79 0 0 = true := by kernel_rfl
theorem fo_79_1 : foffB Tryz.prog 79 1 1 = true := by kernel_rfl
theorem fo_79_2 : foffB Tryz.prog 79 2 2 = true := by kernel_rfl
theorem fo_89_0 : foffB Tryz.prog 89 0 0 = true := by kernel_rfl
theorem fo_89_1 : foffB Tryz.prog 89 1 1 = true := by kernel_rfl
theorem fo_89_2 : foffB Tryz.prog 89 2 2 = true := by kernel_rfl
theorem fo_89_3 : foffB Tryz.prog 89 3 3 = true := by kernel_rfl
theorem fo_89_4 : foffB Tryz.prog 89 4 4 = true := by kernel_rfl
theorem fo_89_5 : foffB Tryz.prog 89 5 5 = true := by kernel_rfl
theorem fo_89_6 : foffB Tryz.prog 89 6 6 = true := by kernel_rfl
theorem fo_89_7 : foffB Tryz.prog 89 7 7 = true := by kernel_rfl
theorem fo_89_8 : foffB Tryz.prog 89 8 8 = true := by kernel_rfl
theorem fo_89_9 : foffB Tryz.prog 89 9 9 = true := by kernel_rfl
theorem fo_89_10 : foffB Tryz.prog 89 10 10 = true := by kernel_rfl
theorem fo_89_11 : foffB Tryz.prog 89 11 11 = true := by kernel_rfl
theorem fo_89_12 : foffB Tryz.prog 89 12 12 = true := by kernel_rfl
theorem fo_91_0 : foffB Tryz.prog 91 0 0 = true := by kernel_rfl
theorem fo_91_1 : foffB Tryz.prog 91 1 1 = true := by kernel_rfl
theorem fo_91_2 : foffB Tryz.prog 91 2 2 = true := by kernel_rfl
theorem fo_94_0 : foffB Tryz.prog 94 0 0 = true := by kernel_rfl
theorem fo_94_1 : foffB Tryz.prog 94 1 1 = true := by kernel_rfl
theorem fo_94_2 : foffB Tryz.prog 94 2 2 = true := by kernel_rfl
theorem fo_94_3 : foffB Tryz.prog 94 3 3 = true := by kernel_rfl
theorem fo_94_4 : foffB Tryz.prog 94 4 4 = true := by kernel_rfl
theorem fo_94_5 : foffB Tryz.prog 94 5 5 = true := by kernel_rfl
theorem fo_99_0 : foffB Tryz.prog 99 0 0 = true := by kernel_rfl
theorem fo_99_1 : foffB Tryz.prog 99 1 1 = true := by kernel_rfl
theorem fo_101_0 : foffB Tryz.prog 101 0 0 = true := by kernel_rfl
theorem fo_107_0 : foffB Tryz.prog 107 0 0 = true := by kernel_rfl
theorem fo_107_1 : foffB Tryz.prog 107 1 1 = true := by kernel_rfl
theorem fo_112_0 : foffB Tryz.prog 112 0 0 = true := by kernel_rfl
theorem fo_112_1 : foffB Tryz.prog 112 1 1 = true := by kernel_rfl
theorem fo_112_2 : foffB Tryz.prog 112 2 2 = true := by kernel_rfl
theorem fo_112_3 : foffB Tryz.prog 112 3 3 = true := by kernel_rfl
theorem fo_112_4 : foffB Tryz.prog 112 4 4 = true := by kernel_rfl
theorem fo_112_5 : foffB Tryz.prog 112 5 5 = true := by kernel_rfl
theorem fo_112_6 : foffB Tryz.prog 112 6 6 = true := by kernel_rfl
theorem fo_112_7 : foffB Tryz.prog 112 7 11 = true := by kernel_rfl
theorem fo_112_8 : foffB Tryz.prog 112 8 12 = true := by kernel_rfl
theorem fo_112_9 : foffB Tryz.prog 112 9 13 = true := by kernel_rfl
theorem fo_112_10 : foffB Tryz.prog 112 10 14 = true := by kernel_rfl
theorem fo_112_11 : foffB Tryz.prog 112 11 15 = true := by kernel_rfl
theorem fo_112_12 : foffB Tryz.prog 112 12 16 = true := by kernel_rfl
theorem fo_112_13 : foffB Tryz.prog 112 13 17 = true := by kernel_rfl
theorem fo_119_0 : foffB Tryz.prog 119 0 0 = true := by kernel_rfl
theorem fo_119_1 : foffB Tryz.prog 119 1 1 = true := by kernel_rfl
theorem fo_119_2 : foffB Tryz.prog 119 2 2 = true := by kernel_rfl
theorem fo_122_0 : foffB Tryz.prog 122 0 0 = true := by kernel_rfl
theorem fo_122_1 : foffB Tryz.prog 122 1 1 = true := by kernel_rfl
theorem fo_126_0 : foffB Tryz.prog 126 0 0 = true := by kernel_rfl
theorem fo_126_1 : foffB Tryz.prog 126 1 1 = true := by kernel_rfl
theorem fo_126_2 : foffB Tryz.prog 126 2 2 = true := by kernel_rfl
theorem fo_126_3 : foffB Tryz.prog 126 3 3 = true := by kernel_rfl
theorem fo_126_4 : foffB Tryz.prog 126 4 4 = true := by kernel_rfl
theorem fo_134_0 : foffB Tryz.prog 134 0 0 = true := by kernel_rfl
theorem fo_134_1 : foffB Tryz.prog 134 1 1 = true := by kernel_rfl
theorem fo_134_2 : foffB Tryz.prog 134 2 4 = true := by kernel_rfl
theorem fo_139_0 : foffB Tryz.prog 139 0 0 = true := by kernel_rfl
theorem fo_139_1 : foffB Tryz.prog 139 1 1 = true := by kernel_rfl
theorem fo_144_0 : foffB Tryz.prog 144 0 0 = true := by kernel_rfl
theorem fo_144_1 : foffB Tryz.prog 144 1 1 = true := by kernel_rfl
theorem fo_144_2 : foffB Tryz.prog 144 2 2 = true := by kernel_rfl
theorem fo_144_3 : foffB Tryz.prog 144 3 3 = true := by kernel_rfl
theorem fo_144_4 : foffB Tryz.prog 144 4 4 = true := by kernel_rfl
theorem fo_146_0 : foffB Tryz.prog 146 0 0 = true := by kernel_rfl
theorem fo_146_1 : foffB Tryz.prog 146 1 1 = true := by kernel_rfl
theorem fo_146_2 : foffB Tryz.prog 146 2 2 = true := by kernel_rfl
theorem fo_146_3 : foffB Tryz.prog 146 3 3 = true := by kernel_rfl
theorem fo_146_4 : foffB Tryz.prog 146 4 8 = true := by kernel_rfl
theorem fo_146_5 : foffB Tryz.prog 146 5 9 = true := by kernel_rfl
theorem fo_146_6 : foffB Tryz.prog 146 6 10 = true := by kernel_rfl
theorem fo_146_7 : foffB Tryz.prog 146 7 11 = true := by kernel_rfl
theorem fo_146_8 : foffB Tryz.prog 146 8 12 = true := by kernel_rfl
theorem fo_146_9 : foffB Tryz.prog 146 9 13 = true := by kernel_rfl
theorem fo_148_0 : foffB Tryz.prog 148 0 0 = true := by kernel_rfl
theorem fo_148_1 : foffB Tryz.prog 148 1 1 = true := by kernel_rfl
theorem fo_148_2 : foffB Tryz.prog 148 2 2 = true := by kernel_rfl
theorem fo_148_3 : foffB Tryz.prog 148 3 3 = true := by kernel_rfl
theorem fo_148_4 : foffB Tryz.prog 148 4 4 = true := by kernel_rfl
theorem fo_148_5 : foffB Tryz.prog 148 5 5 = true := by kernel_rfl
theorem fo_148_6 : foffB Tryz.prog 148 6 6 = true := by kernel_rfl
theorem fo_148_7 : foffB Tryz.prog 148 7 7 = true := by kernel_rfl
theorem fo_154_0 : foffB Tryz.prog 154 0 0 = true := by kernel_rfl
theorem fo_154_1 : foffB Tryz.prog 154 1 3 = true := by kernel_rfl
theorem fo_159_0 : foffB Tryz.prog 159 0 0 = true := by kernel_rfl
theorem fo_159_1 : foffB Tryz.prog 159 1 1 = true := by kernel_rfl
theorem fo_159_2 : foffB Tryz.prog 159 2 4 = true := by kernel_rfl
theorem fo_161_0 : foffB Tryz.prog 161 0 0 = true := by kernel_rfl
theorem fo_161_1 : foffB Tryz.prog 161 1 1 = true := by kernel_rfl
theorem fo_161_2 : foffB Tryz.prog 161 2 2 = true := by kernel_rfl
theorem fo_161_3 : foffB Tryz.prog 161 3 3 = true := by kernel_rfl
theorem fo_182_0 : foffB Tryz.prog 182 0 0 = true := by kernel_rfl
theorem fo_182_1 : foffB Tryz.prog 182 1 1 = true := by kernel_rfl
theorem fo_182_2 : foffB Tryz.prog 182 2 2 = true := by kernel_rfl
theorem fo_182_3 : foffB Tryz.prog 182 3 3 = true := by kernel_rfl
theorem fo_182_4 : foffB Tryz.prog 182 4 4 = true := by kernel_rfl
theorem fo_184_0 : foffB Tryz.prog 184 0 0 = true := by kernel_rfl
theorem fo_184_1 : foffB Tryz.prog 184 1 1 = true := by kernel_rfl
theorem fo_186_0 : foffB Tryz.prog 186 0 0 = true := by kernel_rfl
theorem fo_186_1 : foffB Tryz.prog 186 1 1 = true := by kernel_rfl
theorem fo_186_2 : foffB Tryz.prog 186 2 2 = true := by kernel_rfl
theorem fo_186_3 : foffB Tryz.prog 186 3 7 = true := by kernel_rfl
theorem fo_186_4 : foffB Tryz.prog 186 4 9 = true := by kernel_rfl
theorem fo_186_5 : foffB Tryz.prog 186 5 10 = true := by kernel_rfl
theorem fo_186_6 : foffB Tryz.prog 186 6 11 = true := by kernel_rfl
theorem fo_199_0 : foffB Tryz.prog 199 0 0 = true := by kernel_rfl
theorem fo_199_1 : foffB Tryz.prog 199 1 1 = true := by kernel_rfl
theorem fo_199_2 : foffB Tryz.prog 199 2 2 = true := by kernel_rfl
theorem fo_199_3 : foffB Tryz.prog 199 3 3 = true := by kernel_rfl
theorem fo_199_4 : foffB Tryz.prog 199 4 4 = true := by kernel_rfl
theorem fo_199_5 : foffB Tryz.prog 199 5 5 = true := by kernel_rfl
theorem fo_199_6 : foffB Tryz.prog 199 6 6 = true := by kernel_rfl
theorem fo_199_7 : foffB Tryz.prog 199 7 7 = true := by kernel_rfl
theorem fo_199_8 : foffB Tryz.prog 199 8 8 = true := by kernel_rfl
theorem fo_199_9 : foffB Tryz.prog 199 9 9 = true := by kernel_rfl
theorem fo_199_10 : foffB Tryz.prog 199 10 10 = true := by kernel_rfl
theorem fo_203_0 : foffB Tryz.prog 203 0 0 = true := by kernel_rfl
theorem fo_203_1 : foffB Tryz.prog 203 1 1 = true := by kernel_rfl
theorem fo_209_0 : foffB Tryz.prog 209 0 0 = true := by kernel_rfl
theorem fo_209_1 : foffB Tryz.prog 209 1 1 = true := by kernel_rfl
theorem fo_209_2 : foffB Tryz.prog 209 2 2 = true := by kernel_rfl
theorem fo_211_0 : foffB Tryz.prog 211 0 0 = true := by kernel_rfl
theorem fo_211_1 : foffB Tryz.prog 211 1 1 = true := by kernel_rfl
theorem fo_211_2 : foffB Tryz.prog 211 2 2 = true := by kernel_rfl
theorem fo_211_3 : foffB Tryz.prog 211 3 3 = true := by kernel_rfl
theorem fo_251_0 : foffB Tryz.prog 251 0 0 = true := by kernel_rfl
theorem fo_251_1 : foffB Tryz.prog 251 1 1 = true := by kernel_rfl
theorem fo_251_2 : foffB Tryz.prog 251 2 2 = true := by kernel_rfl
theorem fo_251_3 : foffB Tryz.prog 251 3 3 = true := by kernel_rfl
theorem fo_251_4 : foffB Tryz.prog 251 4 4 = true := by kernel_rfl
theorem fo_251_5 : foffB Tryz.prog 251 5 5 = true := by kernel_rfl
theorem fo_254_0 : foffB Tryz.prog 254 0 0 = true := by kernel_rfl
theorem fo_254_1 : foffB Tryz.prog 254 1 1 = true := by kernel_rfl
theorem fo_254_2 : foffB Tryz.prog 254 2 2 = true := by kernel_rfl
theorem fo_258_0 : foffB Tryz.prog 258 0 0 = true := by kernel_rfl
theorem fo_258_1 : foffB Tryz.prog 258 1 1 = true := by kernel_rfl
theorem fo_258_2 : foffB Tryz.prog 258 2 2 = true := by kernel_rfl
theorem fo_258_3 : foffB Tryz.prog 258 3 3 = true := by kernel_rfl
theorem fo_258_4 : foffB Tryz.prog 258 4 4 = true := by kernel_rfl
theorem fo_258_5 : foffB Tryz.prog 258 5 5 = true := by kernel_rfl
theorem fo_258_6 : foffB Tryz.prog 258 6 6 = true := by kernel_rfl
theorem fo_258_7 : foffB Tryz.prog 258 7 7 = true := by kernel_rfl
theorem fo_263_0 : foffB Tryz.prog 263 0 0 = true := by kernel_rfl
theorem fo_263_1 : foffB Tryz.prog 263 1 3 = true := by kernel_rfl
theorem fo_269_0 : foffB Tryz.prog 269 0 0 = true := by kernel_rfl
theorem fo_269_1 : foffB Tryz.prog 269 1 1 = true := by kernel_rfl
theorem fo_269_2 : foffB Tryz.prog 269 2 2 = true := by kernel_rfl
theorem fo_269_3 : foffB Tryz.prog 269 3 3 = true := by kernel_rfl
theorem fo_269_4 : foffB Tryz.prog 269 4 4 = true := by kernel_rfl
theorem fo_278_0 : foffB Tryz.prog 278 0 0 = true := by kernel_rfl
theorem fo_278_1 : foffB Tryz.prog 278 1 1 = true := by kernel_rfl
theorem fo_295_0 : foffB Tryz.prog 295 0 0 = true := by kernel_rfl
theorem fo_295_1 : foffB Tryz.prog 295 1 1 = true := by kernel_rfl
theorem fo_295_2 : foffB Tryz.prog 295 2 2 = true := by kernel_rfl
theorem fo_297_0 : foffB Tryz.prog 297 0 0 = true := by kernel_rfl
theorem fo_304_0 : foffB Tryz.prog 304 0 0 = true := by kernel_rfl
theorem fo_309_0 : foffB Tryz.prog 309 0 0 = true := by kernel_rfl
theorem fo_309_1 : foffB Tryz.prog 309 1 1 = true := by kernel_rfl
theorem fo_309_2 : foffB Tryz.prog 309 2 2 = true := by kernel_rfl
theorem fo_319_0 : foffB Tryz.prog 319 0 0 = true := by kernel_rfl
theorem fo_319_1 : foffB Tryz.prog 319 1 1 = true := by kernel_rfl
theorem fo_322_0 : foffB Tryz.prog 322 0 0 = true := by kernel_rfl
theorem fo_322_1 : foffB Tryz.prog 322 1 1 = true := by kernel_rfl
theorem fo_331_0 : foffB Tryz.prog 331 0 0 = true := by kernel_rfl
theorem fo_331_1 : foffB Tryz.prog 331 1 1 = true := by kernel_rfl
theorem fo_331_2 : foffB Tryz.prog 331 2 2 = true := by kernel_rfl
theorem fo_331_3 : foffB Tryz.prog 331 3 3 = true := by kernel_rfl
theorem fo_331_4 : foffB Tryz.prog 331 4 4 = true := by kernel_rfl
theorem fo_335_0 : foffB Tryz.prog 335 0 0 = true := by kernel_rfl
theorem fo_349_0 : foffB Tryz.prog 349 0 0 = true := by kernel_rfl
theorem fo_349_1 : foffB Tryz.prog 349 1 1 = true := by kernel_rfl
theorem fo_352_0 : foffB Tryz.prog 352 0 0 = true := by kernel_rfl
theorem fo_352_1 : foffB Tryz.prog 352 1 1 = true := by kernel_rfl
theorem fo_356_0 : foffB Tryz.prog 356 0 0 = true := by kernel_rfl
theorem fo_356_1 : foffB Tryz.prog 356 1 1 = true := by kernel_rfl
theorem fo_359_0 : foffB Tryz.prog 359 0 0 = true := by kernel_rfl
theorem fo_359_1 : foffB Tryz.prog 359 1 1 = true := by kernel_rfl
theorem fo_359_2 : foffB Tryz.prog 359 2 2 = true := by kernel_rfl
theorem fo_359_3 : foffB Tryz.prog 359 3 3 = true := by kernel_rfl
theorem fo_362_0 : foffB Tryz.prog 362 0 0 = true := by kernel_rfl
theorem fo_362_1 : foffB Tryz.prog 362 1 1 = true := by kernel_rfl
theorem fo_362_2 : foffB Tryz.prog 362 2 2 = true := by kernel_rfl
theorem fo_365_0 : foffB Tryz.prog 365 0 0 = true := by kernel_rfl
theorem fo_365_1 : foffB Tryz.prog 365 1 1 = true := by kernel_rfl
theorem fo_365_2 : foffB Tryz.prog 365 2 2 = true := by kernel_rfl
theorem fo_367_0 : foffB Tryz.prog 367 0 0 = true := by kernel_rfl
theorem fo_367_1 : foffB Tryz.prog 367 1 1 = true := by kernel_rfl
theorem fo_367_2 : foffB Tryz.prog 367 2 2 = true := by kernel_rfl
theorem fo_371_0 : foffB Tryz.prog 371 0 0 = true := by kernel_rfl
theorem fo_371_1 : foffB Tryz.prog 371 1 1 = true := by kernel_rfl
theorem fo_371_2 : foffB Tryz.prog 371 2 2 = true := by kernel_rfl
theorem fo_371_3 : foffB Tryz.prog 371 3 3 = true := by kernel_rfl
theorem fo_371_4 : foffB Tryz.prog 371 4 4 = true := by kernel_rfl
theorem fo_373_0 : foffB Tryz.prog 373 0 0 = true := by kernel_rfl
theorem fo_373_1 : foffB Tryz.prog 373 1 1 = true := by kernel_rfl
theorem fo_373_2 : foffB Tryz.prog 373 2 2 = true := by kernel_rfl
theorem fo_375_0 : foffB Tryz.prog 375 0 0 = true := by kernel_rfl
theorem fo_375_1 : foffB Tryz.prog 375 1 1 = true := by kernel_rfl
theorem fo_377_0 : foffB Tryz.prog 377 0 0 = true := by kernel_rfl
theorem fo_377_1 : foffB Tryz.prog 377 1 1 = true := by kernel_rfl
theorem fo_377_2 : foffB Tryz.prog 377 2 2 = true := by kernel_rfl
theorem fo_380_0 : foffB Tryz.prog 380 0 0 = true := by kernel_rfl
theorem fo_380_1 : foffB Tryz.prog 380 1 1 = true := by kernel_rfl
theorem fo_380_2 : foffB Tryz.prog 380 2 2 = true := by kernel_rfl
theorem fo_383_0 : foffB Tryz.prog 383 0 0 = true := by kernel_rfl
theorem fo_383_1 : foffB Tryz.prog 383 1 1 = true := by kernel_rfl
theorem fo_386_0 : foffB Tryz.prog 386 0 0 = true := by kernel_rfl
theorem fo_386_1 : foffB Tryz.prog 386 1 1 = true := by kernel_rfl
theorem fo_388_0 : foffB Tryz.prog 388 0 0 = true := by kernel_rfl
theorem fo_388_1 : foffB Tryz.prog 388 1 1 = true := by kernel_rfl
theorem fo_388_2 : foffB Tryz.prog 388 2 2 = true := by kernel_rfl
theorem fo_388_3 : foffB Tryz.prog 388 3 3 = true := by kernel_rfl
theorem fo_391_0 : foffB Tryz.prog 391 0 0 = true := by kernel_rfl
theorem fo_391_1 : foffB Tryz.prog 391 1 1 = true := by kernel_rfl
theorem fo_394_0 : foffB Tryz.prog 394 0 0 = true := by kernel_rfl
theorem fo_394_1 : foffB Tryz.prog 394 1 1 = true := by kernel_rfl
theorem fo_394_2 : foffB Tryz.prog 394 2 2 = true := by kernel_rfl
theorem fo_413_0 : foffB Tryz.prog 413 0 0 = true := by kernel_rfl
theorem fo_413_1 : foffB Tryz.prog 413 1 1 = true := by kernel_rfl
theorem fo_413_2 : foffB Tryz.prog 413 2 2 = true := by kernel_rfl
theorem in_3 : intB Tryz.prog 3 .i64 = true := by kernel_rfl
theorem in_5 : intB Tryz.prog 5 .u8 = true := by kernel_rfl
theorem in_21 : intB Tryz.prog 21 .i32 = true := by kernel_rfl
theorem in_54 : intB Tryz.prog 54 .i64 = true := by kernel_rfl
theorem in_117 : intB Tryz.prog 117 .u64 = true := by kernel_rfl
theorem in_180 : intB Tryz.prog 180 .i64 = true := by kernel_rfl
theorem in_201 : intB Tryz.prog 201 .u16 = true := by kernel_rfl
theorem in_206 : intB Tryz.prog 206 .u64 = true := by kernel_rfl
theorem in_404 : intB Tryz.prog 404 .i8 = true := by kernel_rfl
theorem pt_120 : Tryz.prog.underlying 120 = some (.pointer (Tryz.prog.pointee 120)) := by kernel_rfl
theorem pt_128 : Tryz.prog.underlying 128 = some (.pointer (Tryz.prog.pointee 128)) := by kernel_rfl
theorem pt_305 : Tryz.prog.underlying 305 = some (.pointer (Tryz.prog.pointee 305)) := by kernel_rfl
theorem pt_346 : Tryz.prog.underlying 346 = some (.pointer (Tryz.prog.pointee 346)) := by kernel_rfl
theorem sc_1 : scalB Tryz.prog 1 = true := by kernel_rfl
theorem sc_3 : scalB Tryz.prog 3 = true := by kernel_rfl
theorem sc_4 : scalB Tryz.prog 4 = true := by kernel_rfl
theorem sc_5 : scalB Tryz.prog 5 = true := by kernel_rfl
theorem sc_9 : scalB Tryz.prog 9 = true := by kernel_rfl
theorem sc_21 : scalB Tryz.prog 21 = true := by kernel_rfl
theorem sc_22 : scalB Tryz.prog 22 = true := by kernel_rfl
theorem sc_24 : scalB Tryz.prog 24 = true := by kernel_rfl
theorem sc_29 : scalB Tryz.prog 29 = true := by kernel_rfl
theorem sc_33 : scalB Tryz.prog 33 = true := by kernel_rfl
theorem sc_36 : scalB Tryz.prog 36 = true := by kernel_rfl
theorem sc_38 : scalB Tryz.prog 38 = true := by kernel_rfl
theorem sc_40 : scalB Tryz.prog 40 = true := by kernel_rfl
theorem sc_42 : scalB Tryz.prog 42 = true := by kernel_rfl
theorem sc_46 : scalB Tryz.prog 46 = true := by kernel_rfl
theorem sc_48 : scalB Tryz.prog 48 = true := by kernel_rfl
theorem sc_50 : scalB Tryz.prog 50 = true := by kernel_rfl
theorem sc_54 : scalB Tryz.prog 54 = true := by kernel_rfl
theorem sc_63 : scalB Tryz.prog 63 = true := by kernel_rfl
theorem sc_64 : scalB Tryz.prog 64 = true := by kernel_rfl
theorem sc_65 : scalB Tryz.prog 65 = true := by kernel_rfl
theorem sc_66 : scalB Tryz.prog 66 = true := by kernel_rfl
theorem sc_70 : scalB Tryz.prog 70 = true := by kernel_rfl
theorem sc_73 : scalB Tryz.prog 73 = true := by kernel_rfl
theorem sc_76 : scalB Tryz.prog 76 = true := by kernel_rfl
theorem sc_77 : scalB Tryz.prog 77 = true := by kernel_rfl
theorem sc_80 : scalB Tryz.prog 80 = true := by kernel_rfl
theorem sc_81 : scalB Tryz.prog 81 = true := by kernel_rfl
theorem sc_82 : scalB Tryz.prog 82 = true := by kernel_rfl
theorem sc_83 : scalB Tryz.prog 83 = true := by kernel_rfl
theorem sc_84 : scalB Tryz.prog 84 = true := by kernel_rfl
theorem sc_85 : scalB Tryz.prog 85 = true := by kernel_rfl
theorem sc_86 : scalB Tryz.prog 86 = true := by kernel_rfl
theorem sc_87 : scalB Tryz.prog 87 = true := by kernel_rfl
theorem sc_92 : scalB Tryz.prog 92 = true := by kernel_rfl
theorem sc_97 : scalB Tryz.prog 97 = true := by kernel_rfl
theorem sc_108 : scalB Tryz.prog 108 = true := by kernel_rfl
theorem sc_109 : scalB Tryz.prog 109 = true := by kernel_rfl
theorem sc_117 : scalB Tryz.prog 117 = true := by kernel_rfl
theorem sc_120 : scalB Tryz.prog 120 = true := by kernel_rfl
theorem sc_123 : scalB Tryz.prog 123 = true := by kernel_rfl
theorem sc_124 : scalB Tryz.prog 124 = true := by kernel_rfl
theorem sc_128 : scalB Tryz.prog 128 = true := by kernel_rfl
theorem sc_155 : scalB Tryz.prog 155 = true := by kernel_rfl
theorem sc_180 : scalB Tryz.prog 180 = true := by kernel_rfl
theorem sc_188 : scalB Tryz.prog 188 = true := by kernel_rfl
theorem sc_192 : scalB Tryz.prog 192 = true := by kernel_rfl
theorem sc_193 : scalB Tryz.prog 193 = true := by kernel_rfl
theorem sc_194 : scalB Tryz.prog 194 = true := by kernel_rfl
theorem sc_195 : scalB Tryz.prog 195 = true := by kernel_rfl
theorem sc_196 : scalB Tryz.prog 196 = true := by kernel_rfl
theorem sc_197 : scalB Tryz.prog 197 = true := by kernel_rfl
theorem sc_201 : scalB Tryz.prog 201 = true := by kernel_rfl
theorem sc_206 : scalB Tryz.prog 206 = true := by kernel_rfl
theorem sc_242 : scalB Tryz.prog 242 = true := by kernel_rfl
theorem sc_245 : scalB Tryz.prog 245 = true := by kernel_rfl
theorem sc_246 : scalB Tryz.prog 246 = true := by kernel_rfl
theorem sc_247 : scalB Tryz.prog 247 = true := by kernel_rfl
theorem sc_248 : scalB Tryz.prog 248 = true := by kernel_rfl
theorem sc_249 : scalB Tryz.prog 249 = true := by kernel_rfl
theorem sc_266 : scalB Tryz.prog 266 = true := by kernel_rfl
theorem sc_267 : scalB Tryz.prog 267 = true := by kernel_rfl
theorem sc_276 : scalB Tryz.prog 276 = true := by kernel_rfl
theorem sc_285 : scalB Tryz.prog 285 = true := by kernel_rfl
theorem sc_290 : scalB Tryz.prog 290 = true := by kernel_rfl
theorem sc_300 : scalB Tryz.prog 300 = true := by kernel_rfl
theorem sc_305 : scalB Tryz.prog 305 = true := by kernel_rfl
theorem sc_346 : scalB Tryz.prog 346 = true := by kernel_rfl
theorem sc_368 : scalB Tryz.prog 368 = true := by kernel_rfl
theorem sc_404 : scalB Tryz.prog 404 = true := by kernel_rfl
theorem se_33 : selB Tryz.prog 33 61 6 = true := by kernel_rfl
theorem se_63 : selB Tryz.prog 63 22 1 = true := by kernel_rfl
theorem se_64 : selB Tryz.prog 64 24 1 = true := by kernel_rfl
theorem se_65 : selB Tryz.prog 65 29 1 = true := by kernel_rfl
theorem se_66 : selB Tryz.prog 66 139 2 = true := by kernel_rfl
theorem se_70 : selB Tryz.prog 70 5 1 = true := by kernel_rfl
theorem se_73 : selB Tryz.prog 73 251 6 = true := by kernel_rfl
theorem se_76 : selB Tryz.prog 76 182 5 = true := by kernel_rfl
theorem se_77 : selB Tryz.prog 77 148 8 = true := by kernel_rfl
theorem se_80 : selB Tryz.prog 80 269 5 = true := by kernel_rfl
theorem se_81 : selB Tryz.prog 81 258 8 = true := by kernel_rfl
theorem se_82 : selB Tryz.prog 82 319 2 = true := by kernel_rfl
theorem se_83 : selB Tryz.prog 83 119 3 = true := by kernel_rfl
theorem se_84 : selB Tryz.prog 84 322 2 = true := by kernel_rfl
theorem se_85 : selB Tryz.prog 85 209 3 = true := by kernel_rfl
theorem se_86 : selB Tryz.prog 86 3 1 = true := by kernel_rfl
theorem se_87 : selB Tryz.prog 87 413 5 = true := by kernel_rfl
theorem se_92 : selB Tryz.prog 92 199 11 = true := by kernel_rfl
theorem se_97 : selB Tryz.prog 97 155 1 = true := by kernel_rfl
theorem se_108 : selB Tryz.prog 108 122 2 = true := by kernel_rfl
theorem se_109 : selB Tryz.prog 109 123 1 = true := by kernel_rfl
theorem se_124 : selB Tryz.prog 124 161 4 = true := by kernel_rfl
theorem se_155 : selB Tryz.prog 155 154 6 = true := by kernel_rfl
theorem se_188 : selB Tryz.prog 188 242 1 = true := by kernel_rfl
theorem se_192 : selB Tryz.prog 192 9 1 = true := by kernel_rfl
theorem se_193 : selB Tryz.prog 193 205 2 = true := by kernel_rfl
theorem se_196 : selB Tryz.prog 196 203 2 = true := by kernel_rfl
theorem se_197 : selB Tryz.prog 197 278 2 = true := by kernel_rfl
theorem se_246 : selB Tryz.prog 246 263 6 = true := by kernel_rfl
theorem se_247 : selB Tryz.prog 247 21 1 = true := by kernel_rfl
theorem se_267 : selB Tryz.prog 267 331 5 = true := by kernel_rfl
theorem se_276 : selB Tryz.prog 276 1 1 = true := by kernel_rfl
theorem se_368 : selB Tryz.prog 368 367 3 = true := by kernel_rfl
theorem st_9 : strB Tryz.prog 9 = true := by kernel_rfl
theorem sz_1 : sizeB Tryz.prog 1 1 = true := by kernel_rfl
theorem sz_3 : sizeB Tryz.prog 3 1 = true := by kernel_rfl
theorem sz_4 : sizeB Tryz.prog 4 1 = true := by kernel_rfl
theorem sz_5 : sizeB Tryz.prog 5 1 = true := by kernel_rfl
theorem sz_9 : sizeB Tryz.prog 9 1 = true := by kernel_rfl
theorem sz_21 : sizeB Tryz.prog 21 1 = true := by kernel_rfl
theorem sz_22 : sizeB Tryz.prog 22 1 = true := by kernel_rfl
theorem sz_24 : sizeB Tryz.prog 24 1 = true := by kernel_rfl
theorem sz_29 : sizeB Tryz.prog 29 1 = true := by kernel_rfl
theorem sz_33 : sizeB Tryz.prog 33 1 = true := by kernel_rfl
theorem sz_36 : sizeB Tryz.prog 36 1 = true := by kernel_rfl
theorem sz_38 : sizeB Tryz.prog 38 1 = true := by kernel_rfl
theorem sz_40 : sizeB Tryz.prog 40 1 = true := by kernel_rfl
theorem sz_42 : sizeB Tryz.prog 42 1 = true := by kernel_rfl
theorem sz_46 : sizeB Tryz.prog 46 1 = true := by kernel_rfl
theorem sz_48 : sizeB Tryz.prog 48 1 = true := by kernel_rfl
theorem sz_50 : sizeB Tryz.prog 50 1 = true := by kernel_rfl
theorem sz_53 : sizeB Tryz.prog 53 3 = true := by kernel_rfl
theorem sz_54 : sizeB Tryz.prog 54 1 = true := by kernel_rfl
theorem sz_56 : sizeB Tryz.prog 56 5 = true := by kernel_rfl
theorem sz_61 : sizeB Tryz.prog 61 6 = true := by kernel_rfl
theorem sz_63 : sizeB Tryz.prog 63 1 = true := by kernel_rfl
theorem sz_64 : sizeB Tryz.prog 64 1 = true := by kernel_rfl
theorem sz_65 : sizeB Tryz.prog 65 1 = true := by kernel_rfl
theorem sz_66 : sizeB Tryz.prog 66 1 = true := by kernel_rfl
theorem sz_68 : sizeB Tryz.prog 68 4 = true := by kernel_rfl
theorem sz_70 : sizeB Tryz.prog 70 1 = true := by kernel_rfl
theorem sz_72 : sizeB Tryz.prog 72 1 = true := by kernel_rfl
theorem sz_73 : sizeB Tryz.prog 73 1 = true := by kernel_rfl
theorem sz_75 : sizeB Tryz.prog 75 3 = true := by kernel_rfl
theorem sz_76 : sizeB Tryz.prog 76 1 = true := by kernel_rfl
theorem sz_77 : sizeB Tryz.prog 77 1 = true := by kernel_rfl
theorem sz_79 : sizeB Tryz.prog 79 3 = true := by kernel_rfl
theorem sz_80 : sizeB Tryz.prog 80 1 = true := by kernel_rfl
theorem sz_81 : sizeB Tryz.prog 81 1 = true := by kernel_rfl
theorem sz_82 : sizeB Tryz.prog 82 1 = true := by kernel_rfl
theorem sz_83 : sizeB Tryz.prog 83 1 = true := by kernel_rfl
theorem sz_84 : sizeB Tryz.prog 84 1 = true := by kernel_rfl
theorem sz_85 : sizeB Tryz.prog 85 1 = true := by kernel_rfl
theorem sz_86 : sizeB Tryz.prog 86 1 = true := by kernel_rfl
theorem sz_87 : sizeB Tryz.prog 87 1 = true := by kernel_rfl
theorem sz_89 : sizeB Tryz.prog 89 13 = true := by kernel_rfl
theorem sz_91 : sizeB Tryz.prog 91 3 = true := by kernel_rfl
theorem sz_92 : sizeB Tryz.prog 92 1 = true := by kernel_rfl
theorem sz_94 : sizeB Tryz.prog 94 6 = true := by kernel_rfl
theorem sz_96 : sizeB Tryz.prog 96 0 = true := by kernel_rfl
theorem sz_97 : sizeB Tryz.prog 97 1 = true := by kernel_rfl
theorem sz_99 : sizeB Tryz.prog 99 2 = true := by kernel_rfl
theorem sz_101 : sizeB Tryz.prog 101 1 = true := by kernel_rfl
theorem sz_107 : sizeB Tryz.prog 107 2 = true := by kernel_rfl
theorem sz_108 : sizeB Tryz.prog 108 1 = true := by kernel_rfl
theorem sz_109 : sizeB Tryz.prog 109 1 = true := by kernel_rfl
theorem sz_110 : sizeB Tryz.prog 110 5 = true := by kernel_rfl
theorem sz_112 : sizeB Tryz.prog 112 22 = true := by kernel_rfl
theorem sz_117 : sizeB Tryz.prog 117 1 = true := by kernel_rfl
theorem sz_119 : sizeB Tryz.prog 119 3 = true := by kernel_rfl
theorem sz_120 : sizeB Tryz.prog 120 1 = true := by kernel_rfl
theorem sz_122 : sizeB Tryz.prog 122 2 = true := by kernel_rfl
theorem sz_123 : sizeB Tryz.prog 123 1 = true := by kernel_rfl
theorem sz_124 : sizeB Tryz.prog 124 1 = true := by kernel_rfl
theorem sz_126 : sizeB Tryz.prog 126 5 = true := by kernel_rfl
theorem sz_128 : sizeB Tryz.prog 128 1 = true := by kernel_rfl
theorem sz_134 : sizeB Tryz.prog 134 5 = true := by kernel_rfl
theorem sz_139 : sizeB Tryz.prog 139 2 = true := by kernel_rfl
theorem sz_144 : sizeB Tryz.prog 144 5 = true := by kernel_rfl
theorem sz_146 : sizeB Tryz.prog 146 14 = true := by kernel_rfl
theorem sz_148 : sizeB Tryz.prog 148 8 = true := by kernel_rfl
theorem sz_154 : sizeB Tryz.prog 154 6 = true := by kernel_rfl
theorem sz_155 : sizeB Tryz.prog 155 1 = true := by kernel_rfl
theorem sz_159 : sizeB Tryz.prog 159 5 = true := by kernel_rfl
theorem sz_161 : sizeB Tryz.prog 161 4 = true := by kernel_rfl
theorem sz_180 : sizeB Tryz.prog 180 1 = true := by kernel_rfl
theorem sz_182 : sizeB Tryz.prog 182 5 = true := by kernel_rfl
theorem sz_184 : sizeB Tryz.prog 184 2 = true := by kernel_rfl
theorem sz_186 : sizeB Tryz.prog 186 12 = true := by kernel_rfl
theorem sz_188 : sizeB Tryz.prog 188 1 = true := by kernel_rfl
theorem sz_192 : sizeB Tryz.prog 192 1 = true := by kernel_rfl
theorem sz_193 : sizeB Tryz.prog 193 1 = true := by kernel_rfl
theorem sz_194 : sizeB Tryz.prog 194 1 = true := by kernel_rfl
theorem sz_195 : sizeB Tryz.prog 195 1 = true := by kernel_rfl
theorem sz_196 : sizeB Tryz.prog 196 1 = true := by kernel_rfl
theorem sz_197 : sizeB Tryz.prog 197 1 = true := by kernel_rfl
theorem sz_201 : sizeB Tryz.prog 201 1 = true := by kernel_rfl
theorem sz_203 : sizeB Tryz.prog 203 2 = true := by kernel_rfl
theorem sz_205 : sizeB Tryz.prog 205 2 = true := by kernel_rfl
theorem sz_206 : sizeB Tryz.prog 206 1 = true := by kernel_rfl
theorem sz_209 : sizeB Tryz.prog 209 3 = true := by kernel_rfl
theorem sz_211 : sizeB Tryz.prog 211 9 = true := by kernel_rfl
theorem sz_225 : sizeB Tryz.prog 225 9 = true := by kernel_rfl
theorem sz_242 : sizeB Tryz.prog 242 1 = true := by kernel_rfl
theorem sz_245 : sizeB Tryz.prog 245 1 = true := by kernel_rfl
theorem sz_246 : sizeB Tryz.prog 246 1 = true := by kernel_rfl
theorem sz_247 : sizeB Tryz.prog 247 1 = true := by kernel_rfl
theorem sz_248 : sizeB Tryz.prog 248 1 = true := by kernel_rfl
theorem sz_249 : sizeB Tryz.prog 249 1 = true := by kernel_rfl
theorem sz_251 : sizeB Tryz.prog 251 6 = true := by kernel_rfl
theorem sz_254 : sizeB Tryz.prog 254 3 = true := by kernel_rfl
theorem sz_258 : sizeB Tryz.prog 258 8 = true := by kernel_rfl
theorem sz_263 : sizeB Tryz.prog 263 6 = true := by kernel_rfl
theorem sz_266 : sizeB Tryz.prog 266 1 = true := by kernel_rfl
theorem sz_267 : sizeB Tryz.prog 267 1 = true := by kernel_rfl
theorem sz_274 : sizeB Tryz.prog 274 20 = true := by kernel_rfl
theorem sz_276 : sizeB Tryz.prog 276 1 = true := by kernel_rfl
theorem sz_278 : sizeB Tryz.prog 278 2 = true := by kernel_rfl
theorem sz_281 : sizeB Tryz.prog 281 3 = true := by kernel_rfl
theorem sz_285 : sizeB Tryz.prog 285 1 = true := by kernel_rfl
theorem sz_290 : sizeB Tryz.prog 290 1 = true := by kernel_rfl
theorem sz_295 : sizeB Tryz.prog 295 3 = true := by kernel_rfl
theorem sz_297 : sizeB Tryz.prog 297 1 = true := by kernel_rfl
theorem sz_300 : sizeB Tryz.prog 300 1 = true := by kernel_rfl
theorem sz_304 : sizeB Tryz.prog 304 1 = true := by kernel_rfl
theorem sz_305 : sizeB Tryz.prog 305 1 = true := by kernel_rfl
theorem sz_309 : sizeB Tryz.prog 309 3 = true := by kernel_rfl
theorem sz_319 : sizeB Tryz.prog 319 2 = true := by kernel_rfl
theorem sz_322 : sizeB Tryz.prog 322 2 = true := by kernel_rfl
theorem sz_328 : sizeB Tryz.prog 328 33 = true := by kernel_rfl
theorem sz_331 : sizeB Tryz.prog 331 5 = true := by kernel_rfl
theorem sz_335 : sizeB Tryz.prog 335 3 = true := by kernel_rfl
theorem sz_346 : sizeB Tryz.prog 346 1 = true := by kernel_rfl
theorem sz_349 : sizeB Tryz.prog 349 2 = true := by kernel_rfl
theorem sz_352 : sizeB Tryz.prog 352 2 = true := by kernel_rfl
theorem sz_356 : sizeB Tryz.prog 356 2 = true := by kernel_rfl
theorem sz_359 : sizeB Tryz.prog 359 4 = true := by kernel_rfl
theorem sz_362 : sizeB Tryz.prog 362 3 = true := by kernel_rfl
theorem sz_365 : sizeB Tryz.prog 365 3 = true := by kernel_rfl
theorem sz_367 : sizeB Tryz.prog 367 3 = true := by kernel_rfl
theorem sz_368 : sizeB Tryz.prog 368 1 = true := by kernel_rfl
theorem sz_371 : sizeB Tryz.prog 371 5 = true := by kernel_rfl
theorem sz_373 : sizeB Tryz.prog 373 3 = true := by kernel_rfl
theorem sz_375 : sizeB Tryz.prog 375 2 = true := by kernel_rfl
theorem sz_377 : sizeB Tryz.prog 377 3 = true := by kernel_rfl
theorem sz_380 : sizeB Tryz.prog 380 3 = true := by kernel_rfl
theorem sz_383 : sizeB Tryz.prog 383 2 = true := by kernel_rfl
theorem sz_386 : sizeB Tryz.prog 386 2 = true := by kernel_rfl
theorem sz_388 : sizeB Tryz.prog 388 4 = true := by kernel_rfl
theorem sz_391 : sizeB Tryz.prog 391 2 = true := by kernel_rfl
theorem sz_394 : sizeB Tryz.prog 394 3 = true := by kernel_rfl
theorem sz_399 : sizeB Tryz.prog 399 8 = true := by kernel_rfl
theorem sz_404 : sizeB Tryz.prog 404 1 = true := by kernel_rfl
theorem sz_413 : sizeB Tryz.prog 413 5 = true := by kernel_rfl
theorem sz_425 : sizeB Tryz.prog 425 32 = true := by kernel_rfl
theorem ze_1 : zeroB Tryz.prog 1 [.nilFunc] := zeroB_of (by kernel_rfl)
theorem ze_3 : zeroB Tryz.prog 3 [.int .i64 0] := zeroB_of (by kernel_rfl)
theorem ze_4 : zeroB Tryz.prog 4 [.bool false] := zeroB_of (by kernel_rfl)
theorem ze_5 : zeroB Tryz.prog 5 [.int .u8 0] := zeroB_of (by kernel_rfl)
theorem ze_9 : zeroB Tryz.prog 9 [S []] := zeroB_of (by kernel_rfl)
theorem ze_21 : zeroB Tryz.prog 21 [.int .i32 0] := zeroB_of (by kernel_rfl)
theorem ze_22 : zeroB Tryz.prog 22 [.pointer none] := zeroB_of (by kernel_rfl)
theorem ze_24 : zeroB Tryz.prog 24 [.pointer none] := zeroB_of (by kernel_rfl)
theorem ze_29 : zeroB Tryz.prog 29 [.pointer none] := zeroB_of (by kernel_rfl)
theorem ze_54 : zeroB Tryz.prog 54 [.int .i64 0] := zeroB_of (by kernel_rfl)
theorem ze_56 : zeroB Tryz.prog 56 [.int .i64 0, .int .i64 0, .int .i64 0, S [], S []] := zeroB_of (by kernel_rfl)
theorem ze_119 : zeroB Tryz.prog 119 [.int .i64 0, .int .u64 0, S []] := zeroB_of (by kernel_rfl)
theorem ze_122 : zeroB Tryz.prog 122 [.int .i64 0, .pointer none] := zeroB_of (by kernel_rfl)
theorem ze_123 : zeroB Tryz.prog 123 [.pointer none] := zeroB_of (by kernel_rfl)
theorem ze_134 : zeroB Tryz.prog 134 [.int .i64 0, .int .i64 0, .int .u64 0, S [], .int .i64 0] := zeroB_of (by kernel_rfl)
theorem ze_139 : zeroB Tryz.prog 139 [S [], S []] := zeroB_of (by kernel_rfl)
theorem ze_144 : zeroB Tryz.prog 144 [.int .i64 0, S [], .int .u64 0, .int .i64 0, .int .i64 0] := zeroB_of (by kernel_rfl)
theorem ze_148 : zeroB Tryz.prog 148 [.int .i64 0, .int .i64 0, .int .i64 0, .int .i64 0, .int .i64 0, .int .u64 0, S [], .int .i64 0] := zeroB_of (by kernel_rfl)
theorem ze_154 : zeroB Tryz.prog 154 [.int .i64 0, .int .u64 0, S [], .int .i64 0, .int .u64 0, S []] := zeroB_of (by kernel_rfl)
theorem ze_155 : zeroB Tryz.prog 155 [.slice none 0 0] := zeroB_of (by kernel_rfl)
theorem ze_161 : zeroB Tryz.prog 161 [.int .i64 0, .int .i64 0, .int .i64 0, .pointer none] := zeroB_of (by kernel_rfl)
theorem ze_182 : zeroB Tryz.prog 182 [.int .i64 0, .int .i64 0, S [], .int .u64 0, .int .i64 0] := zeroB_of (by kernel_rfl)
theorem ze_184 : zeroB Tryz.prog 184 [.int .i64 0, .int .i64 0] := zeroB_of (by kernel_rfl)
theorem ze_199 : zeroB Tryz.prog 199 [.pointer none, .pointer none, .int .i64 0, .slice none 0 0, .int .i64 0, .slice none 0 0, .slice none 0 0, .map none, .map none, .slice none 0 0, .slice none 0 0] := zeroB_of (by kernel_rfl)
theorem ze_201 : zeroB Tryz.prog 201 [.int .u16 0] := zeroB_of (by kernel_rfl)
theorem ze_203 : zeroB Tryz.prog 203 [.int .u8 0, .int .u16 0] := zeroB_of (by kernel_rfl)
theorem ze_205 : zeroB Tryz.prog 205 [.int .u8 0, .int .u8 0] := zeroB_of (by kernel_rfl)
theorem ze_209 : zeroB Tryz.prog 209 [.int .i64 0, .int .i64 0, .int .i64 0] := zeroB_of (by kernel_rfl)
theorem ze_211 : zeroB Tryz.prog 211 [.int .i64 0, .int .i64 0, .int .i64 0, .int .i64 0, .int .u64 0, S [], .int .i64 0, .int .u64 0, S []] := zeroB_of (by kernel_rfl)
theorem ze_225 : zeroB Tryz.prog 225 [.int .i64 0, .int .u64 0, S [], .int .i64 0, .int .u64 0, S [], .int .i64 0, .int .u64 0, S []] := zeroB_of (by kernel_rfl)
theorem ze_242 : zeroB Tryz.prog 242 [.nilIface] := zeroB_of (by kernel_rfl)
theorem ze_251 : zeroB Tryz.prog 251 [.slice none 0 0, .slice none 0 0, .map none, .map none, .map none, .int .i64 0] := zeroB_of (by kernel_rfl)
theorem ze_258 : zeroB Tryz.prog 258 [.int .i64 0, .int .i64 0, .int .i64 0, .int .i64 0, .int .i64 0, .int .i64 0, .int .i64 0, .int .i64 0] := zeroB_of (by kernel_rfl)
theorem ze_263 : zeroB Tryz.prog 263 [.int .i64 0, .int .u64 0, S [], .int .i64 0, .int .u64 0, S []] := zeroB_of (by kernel_rfl)
theorem ze_269 : zeroB Tryz.prog 269 [.int .i64 0, .int .i64 0, .slice none 0 0, .slice none 0 0, .slice none 0 0] := zeroB_of (by kernel_rfl)
theorem ze_274 : zeroB Tryz.prog 274 [.int .u8 0, .int .u8 0, .int .u8 0, .int .u8 0, .int .u8 0, .int .u8 0, .int .u8 0, .int .u8 0, .int .u8 0, .int .u8 0, .int .u8 0, .int .u8 0, .int .u8 0, .int .u8 0, .int .u8 0, .int .u8 0, .int .u8 0, .int .u8 0, .int .u8 0, .int .u8 0] := zeroB_of (by kernel_rfl)
theorem ze_278 : zeroB Tryz.prog 278 [.int .i64 0, .slice none 0 0] := zeroB_of (by kernel_rfl)
theorem ze_281 : zeroB Tryz.prog 281 [.int .i64 0, .int .i64 0, .int .i64 0] := zeroB_of (by kernel_rfl)
theorem ze_319 : zeroB Tryz.prog 319 [.int .u8 0, .int .u8 0] := zeroB_of (by kernel_rfl)
theorem ze_322 : zeroB Tryz.prog 322 [.int .u8 0, .int .u16 0] := zeroB_of (by kernel_rfl)
theorem ze_328 : zeroB Tryz.prog 328 [.int .i32 0, .int .i32 0, .int .i32 0, .int .i32 0, .int .i32 0, .int .i32 0, .int .i32 0, .int .i32 0, .int .i32 0, .int .i32 0, .int .i32 0, .int .i32 0, .int .i32 0, .int .i32 0, .int .i32 0, .int .i32 0, .int .i32 0, .int .i32 0, .int .i32 0, .int .i32 0, .int .i32 0, .int .i32 0, .int .i32 0, .int .i32 0, .int .i32 0, .int .i32 0, .int .i32 0, .int .i32 0, .int .i32 0, .int .i32 0, .int .i32 0, .int .i32 0, .int .i32 0] := zeroB_of (by kernel_rfl)
theorem ze_331 : zeroB Tryz.prog 331 [.int .i64 0, .int .i64 0, .int .i64 0, .int .i64 0, .bool false] := zeroB_of (by kernel_rfl)
theorem ze_367 : zeroB Tryz.prog 367 [.int .i64 0, .int .i64 0, .int .u64 0] := zeroB_of (by kernel_rfl)
theorem ze_399 : zeroB Tryz.prog 399 [.int .u8 0, .int .u8 0, .int .u8 0, .int .u8 0, .int .u8 0, .int .u8 0, .int .u8 0, .int .u8 0] := zeroB_of (by kernel_rfl)
theorem ze_413 : zeroB Tryz.prog 413 [.int .i64 0, .int .i64 0, .int .i64 0, .int .u64 0, S []] := zeroB_of (by kernel_rfl)
theorem ze_425 : zeroB Tryz.prog 425 [.bool false, .bool false, .bool false, .bool false, .bool false, .bool false, .bool false, .bool false, .bool false, .bool false, .bool false, .bool false, .bool false, .bool false, .bool false, .bool false, .bool false, .bool false, .bool false, .bool false, .bool false, .bool false, .bool false, .bool false, .bool false, .bool false, .bool false, .bool false, .bool false, .bool false, .bool false, .bool false] := zeroB_of (by kernel_rfl)
theorem zx_1 : ∃ z, zeroB Tryz.prog 1 z ∧ z.length = 1 := ⟨_, ze_1, rfl⟩
theorem zx_3 : ∃ z, zeroB Tryz.prog 3 z ∧ z.length = 1 := ⟨_, ze_3, rfl⟩
theorem zx_5 : ∃ z, zeroB Tryz.prog 5 z ∧ z.length = 1 := ⟨_, ze_5, rfl⟩
theorem zx_9 : ∃ z, zeroB Tryz.prog 9 z ∧ z.length = 1 := ⟨_, ze_9, rfl⟩
theorem zx_21 : ∃ z, zeroB Tryz.prog 21 z ∧ z.length = 1 := ⟨_, ze_21, rfl⟩
theorem zx_22 : ∃ z, zeroB Tryz.prog 22 z ∧ z.length = 1 := ⟨_, ze_22, rfl⟩
theorem zx_24 : ∃ z, zeroB Tryz.prog 24 z ∧ z.length = 1 := ⟨_, ze_24, rfl⟩
theorem zx_29 : ∃ z, zeroB Tryz.prog 29 z ∧ z.length = 1 := ⟨_, ze_29, rfl⟩
theorem zx_119 : ∃ z, zeroB Tryz.prog 119 z ∧ z.length = 3 := ⟨_, ze_119, rfl⟩
theorem zx_122 : ∃ z, zeroB Tryz.prog 122 z ∧ z.length = 2 := ⟨_, ze_122, rfl⟩
theorem zx_123 : ∃ z, zeroB Tryz.prog 123 z ∧ z.length = 1 := ⟨_, ze_123, rfl⟩
theorem zx_139 : ∃ z, zeroB Tryz.prog 139 z ∧ z.length = 2 := ⟨_, ze_139, rfl⟩
theorem zx_148 : ∃ z, zeroB Tryz.prog 148 z ∧ z.length = 8 := ⟨_, ze_148, rfl⟩
theorem zx_154 : ∃ z, zeroB Tryz.prog 154 z ∧ z.length = 6 := ⟨_, ze_154, rfl⟩
theorem zx_155 : ∃ z, zeroB Tryz.prog 155 z ∧ z.length = 1 := ⟨_, ze_155, rfl⟩
theorem zx_161 : ∃ z, zeroB Tryz.prog 161 z ∧ z.length = 4 := ⟨_, ze_161, rfl⟩
theorem zx_182 : ∃ z, zeroB Tryz.prog 182 z ∧ z.length = 5 := ⟨_, ze_182, rfl⟩
theorem zx_199 : ∃ z, zeroB Tryz.prog 199 z ∧ z.length = 11 := ⟨_, ze_199, rfl⟩
theorem zx_203 : ∃ z, zeroB Tryz.prog 203 z ∧ z.length = 2 := ⟨_, ze_203, rfl⟩
theorem zx_205 : ∃ z, zeroB Tryz.prog 205 z ∧ z.length = 2 := ⟨_, ze_205, rfl⟩
theorem zx_209 : ∃ z, zeroB Tryz.prog 209 z ∧ z.length = 3 := ⟨_, ze_209, rfl⟩
theorem zx_242 : ∃ z, zeroB Tryz.prog 242 z ∧ z.length = 1 := ⟨_, ze_242, rfl⟩
theorem zx_251 : ∃ z, zeroB Tryz.prog 251 z ∧ z.length = 6 := ⟨_, ze_251, rfl⟩
theorem zx_258 : ∃ z, zeroB Tryz.prog 258 z ∧ z.length = 8 := ⟨_, ze_258, rfl⟩
theorem zx_263 : ∃ z, zeroB Tryz.prog 263 z ∧ z.length = 6 := ⟨_, ze_263, rfl⟩
theorem zx_269 : ∃ z, zeroB Tryz.prog 269 z ∧ z.length = 5 := ⟨_, ze_269, rfl⟩
theorem zx_278 : ∃ z, zeroB Tryz.prog 278 z ∧ z.length = 2 := ⟨_, ze_278, rfl⟩
theorem zx_319 : ∃ z, zeroB Tryz.prog 319 z ∧ z.length = 2 := ⟨_, ze_319, rfl⟩
theorem zx_322 : ∃ z, zeroB Tryz.prog 322 z ∧ z.length = 2 := ⟨_, ze_322, rfl⟩
theorem zx_331 : ∃ z, zeroB Tryz.prog 331 z ∧ z.length = 5 := ⟨_, ze_331, rfl⟩
theorem zx_367 : ∃ z, zeroB Tryz.prog 367 z ∧ z.length = 3 := ⟨_, ze_367, rfl⟩
theorem zx_413 : ∃ z, zeroB Tryz.prog 413 z ∧ z.length = 5 := ⟨_, ze_413, rfl⟩
theorem mixed : Tryz.prog.follows .mixedOrders = true := by kernel_rfl
end Go.Proofs.Qxb6500568aGreatDoor
