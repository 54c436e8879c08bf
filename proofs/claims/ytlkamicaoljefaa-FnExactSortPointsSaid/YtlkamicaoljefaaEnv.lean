/- DERIVED BY PROGRAM (envgen.py): the program's types as the engine's tables, and that the tables are right. -/
import Derived.Test.YtlkamicaoljefaaProg
import Derived.Test.YtlkamicaoljefaaEngV
import Derived.KernelRfl
namespace Go.Proofs.Ytlkamicaoljefaa
open Go.Eng

def eSl : TypeId → Option ETy
  | 33 => some (.int .i64)
  | 40 => some (.pt)
  | 43 => some (.pt)
  | 48 => some (.int .u8)
  | 114 => some (.int .i64)
  | _ => none

def eVar : TypeId → Option (Bool × Nat)
  | 1 => some (false, 1)
  | 2 => some (false, 1)
  | 3 => some (false, 1)
  | 4 => some (false, 1)
  | 5 => some (false, 1)
  | 6 => some (false, 1)
  | 7 => some (true, 4)
  | 8 => some (true, 4)
  | 9 => some (false, 1)
  | 10 => some (false, 1)
  | 11 => some (false, 1)
  | 12 => some (false, 1)
  | 13 => some (true, 2)
  | 14 => some (true, 2)
  | 15 => some (false, 1)
  | 16 => some (false, 1)
  | 17 => some (false, 1)
  | 18 => some (true, 1)
  | 19 => some (true, 1)
  | 21 => some (false, 1)
  | 22 => some (false, 1)
  | 23 => some (true, 2)
  | 24 => some (true, 2)
  | 25 => some (false, 1)
  | 26 => some (true, 2)
  | 27 => some (false, 1)
  | 28 => some (false, 1)
  | 29 => some (false, 1)
  | 31 => some (false, 1)
  | 32 => some (false, 1)
  | 33 => some (false, 1)
  | 34 => some (false, 1)
  | 35 => some (false, 1)
  | 37 => some (false, 1)
  | 38 => some (false, 1)
  | 39 => some (false, 1)
  | 40 => some (false, 1)
  | 41 => some (false, 1)
  | 42 => some (false, 1)
  | 43 => some (false, 1)
  | 44 => some (false, 1)
  | 45 => some (false, 1)
  | 46 => some (false, 1)
  | 47 => some (false, 1)
  | 48 => some (false, 1)
  | 49 => some (false, 1)
  | 50 => some (false, 1)
  | 51 => some (false, 1)
  | 53 => some (false, 1)
  | 54 => some (false, 1)
  | 55 => some (false, 1)
  | 57 => some (false, 1)
  | 58 => some (false, 1)
  | 60 => some (false, 1)
  | 61 => some (false, 1)
  | 62 => some (false, 1)
  | 63 => some (false, 1)
  | 64 => some (false, 1)
  | 65 => some (false, 1)
  | 66 => some (false, 1)
  | 67 => some (false, 1)
  | 68 => some (false, 1)
  | 69 => some (false, 1)
  | 70 => some (false, 1)
  | 71 => some (false, 1)
  | 72 => some (false, 1)
  | 73 => some (false, 1)
  | 75 => some (false, 1)
  | 76 => some (false, 1)
  | 77 => some (false, 1)
  | 79 => some (false, 1)
  | 80 => some (false, 1)
  | 81 => some (false, 1)
  | 82 => some (false, 1)
  | 83 => some (false, 1)
  | 84 => some (false, 1)
  | 85 => some (false, 1)
  | 86 => some (false, 1)
  | 87 => some (false, 1)
  | 88 => some (false, 1)
  | 89 => some (false, 1)
  | 90 => some (true, 3)
  | 91 => some (true, 3)
  | 92 => some (false, 1)
  | 93 => some (false, 1)
  | 94 => some (false, 1)
  | 95 => some (false, 1)
  | 96 => some (false, 1)
  | 97 => some (false, 1)
  | 98 => some (false, 1)
  | 99 => some (false, 1)
  | 100 => some (false, 1)
  | 101 => some (false, 1)
  | 102 => some (false, 1)
  | 103 => some (false, 1)
  | 104 => some (false, 1)
  | 106 => some (false, 1)
  | 107 => some (false, 1)
  | 108 => some (false, 1)
  | 110 => some (false, 1)
  | 111 => some (false, 1)
  | 112 => some (false, 1)
  | 113 => some (false, 1)
  | 114 => some (false, 1)
  | 115 => some (false, 1)
  | 116 => some (false, 1)
  | 117 => some (false, 1)
  | 118 => some (false, 1)
  | 119 => some (false, 1)
  | 120 => some (false, 1)
  | 121 => some (false, 1)
  | 123 => some (false, 1)
  | 124 => some (false, 1)
  | 125 => some (true, 4)
  | 126 => some (true, 4)
  | 130 => some (false, 1)
  | 131 => some (false, 1)
  | 132 => some (false, 1)
  | 133 => some (false, 1)
  | 134 => some (false, 1)
  | 135 => some (false, 1)
  | 136 => some (false, 1)
  | 137 => some (true, 11)
  | 138 => some (true, 11)
  | _ => none

def eFld : TypeId → Nat → Option Nat
  | 7, 0 => some 0
  | 7, 1 => some 1
  | 7, 2 => some 2
  | 7, 3 => some 3
  | 8, 0 => some 0
  | 8, 1 => some 1
  | 8, 2 => some 2
  | 8, 3 => some 3
  | 13, 0 => some 0
  | 13, 1 => some 1
  | 14, 0 => some 0
  | 14, 1 => some 1
  | 18, 0 => some 0
  | 19, 0 => some 0
  | 23, 0 => some 0
  | 23, 1 => some 1
  | 24, 0 => some 0
  | 24, 1 => some 1
  | 26, 0 => some 0
  | 26, 1 => some 1
  | 90, 0 => some 0
  | 90, 1 => some 1
  | 90, 2 => some 2
  | 91, 0 => some 0
  | 91, 1 => some 1
  | 91, 2 => some 2
  | 125, 0 => some 0
  | 125, 1 => some 1
  | 125, 2 => some 2
  | 125, 3 => some 3
  | 126, 0 => some 0
  | 126, 1 => some 1
  | 126, 2 => some 2
  | 126, 3 => some 3
  | 137, 0 => some 0
  | 137, 1 => some 1
  | 137, 2 => some 2
  | 137, 3 => some 3
  | 137, 4 => some 4
  | 137, 5 => some 5
  | 137, 6 => some 6
  | 137, 7 => some 7
  | 137, 8 => some 8
  | 137, 9 => some 9
  | 137, 10 => some 10
  | 138, 0 => some 0
  | 138, 1 => some 1
  | 138, 2 => some 2
  | 138, 3 => some 3
  | 138, 4 => some 4
  | 138, 5 => some 5
  | 138, 6 => some 6
  | 138, 7 => some 7
  | 138, 8 => some 8
  | 138, 9 => some 9
  | 138, 10 => some 10
  | _, _ => none

def eZero : TypeId → Option (List Value)
  | 1 => some [.nilFunc]
  | 2 => some [.int .i64 0]
  | 3 => some [.int .i64 0]
  | 4 => some [.bool false]
  | 5 => some [.int .u8 0]
  | 6 => some [.int .u8 0]
  | 7 => some [.int .i64 0, .int .i64 0, .bool false, .int .u8 0]
  | 8 => some [.int .i64 0, .int .i64 0, .bool false, .int .u8 0]
  | 9 => some [.string ByteArray.empty]
  | 10 => some [.string ByteArray.empty]
  | 11 => some [.string ByteArray.empty]
  | 12 => some [.int .u64 0]
  | 13 => some [.string ByteArray.empty, .int .u64 0]
  | 14 => some [.string ByteArray.empty, .int .u64 0]
  | 15 => some [.pointer none]
  | 16 => some [.pointer none]
  | 17 => some [.pointer none]
  | 18 => some [.pointer none]
  | 19 => some [.pointer none]
  | 21 => some [.int .i32 0]
  | 22 => some [.nilFunc]
  | 23 => some [.int .i64 0, .int .i64 0]
  | 24 => some [.int .i64 0, .int .i64 0]
  | 25 => some [.nilFunc]
  | 26 => some [.int .i64 0, .int .i64 0]
  | 27 => some [.nilFunc]
  | 28 => some [.nilFunc]
  | 29 => some [.nilFunc]
  | 31 => some [.nilFunc]
  | 32 => some [.nilFunc]
  | 33 => some [.slice none 0 0]
  | 34 => some [.nilFunc]
  | 35 => some [.nilFunc]
  | 37 => some [.nilFunc]
  | 38 => some [.nilFunc]
  | 39 => some [.nilFunc]
  | 40 => some [.slice none 0 0]
  | 41 => some [.nilFunc]
  | 42 => some [.nilFunc]
  | 43 => some [.slice none 0 0]
  | 44 => some [.nilFunc]
  | 45 => some [.nilFunc]
  | 46 => some [.nilFunc]
  | 47 => some [.nilFunc]
  | 48 => some [.slice none 0 0]
  | 49 => some [.nilFunc]
  | 50 => some [.nilFunc]
  | 51 => some [.nilFunc]
  | 53 => some [.nilFunc]
  | 54 => some [.nilFunc]
  | 55 => some [.nilFunc]
  | 57 => some [.nilFunc]
  | 58 => some [.nilFunc]
  | 60 => some [.nilFunc]
  | 61 => some [.nilFunc]
  | 62 => some [.nilFunc]
  | 63 => some [.nilFunc]
  | 64 => some [.nilFunc]
  | 65 => some [.nilFunc]
  | 66 => some [.nilFunc]
  | 67 => some [.nilFunc]
  | 68 => some [.nilFunc]
  | 69 => some [.nilFunc]
  | 70 => some [.nilFunc]
  | 71 => some [.pointer none]
  | 72 => some [.nilFunc]
  | 73 => some [.nilFunc]
  | 75 => some [.nilFunc]
  | 76 => some [.nilFunc]
  | 77 => some [.nilFunc]
  | 79 => some [.nilFunc]
  | 80 => some [.nilFunc]
  | 81 => some [.nilFunc]
  | 82 => some [.nilFunc]
  | 83 => some [.nilFunc]
  | 84 => some [.nilFunc]
  | 85 => some [.nilFunc]
  | 86 => some [.nilFunc]
  | 87 => some [.nilFunc]
  | 88 => some [.nilFunc]
  | 89 => some [.int .u64 0]
  | 90 => some [.slice none 0 0, .int .i64 0, .int .u64 0]
  | 91 => some [.slice none 0 0, .int .i64 0, .int .u64 0]
  | 92 => some [.nilFunc]
  | 93 => some [.nilFunc]
  | 94 => some [.nilFunc]
  | 95 => some [.nilFunc]
  | 96 => some [.nilFunc]
  | 97 => some [.nilFunc]
  | 98 => some [.int .u64 0]
  | 99 => some [.nilFunc]
  | 100 => some [.nilFunc]
  | 101 => some [.nilFunc]
  | 102 => some [.nilFunc]
  | 103 => some [.nilFunc]
  | 104 => some [.int .i64 0]
  | 106 => some [.nilFunc]
  | 107 => some [.nilFunc]
  | 108 => some [.nilFunc]
  | 110 => some [.nilFunc]
  | 111 => some [.nilFunc]
  | 112 => some [.int .u32 0]
  | 113 => some [.nilFunc]
  | 114 => some [.slice none 0 0]
  | 115 => some [.int .u64 0]
  | 116 => some [.nilFunc]
  | 117 => some [.nilFunc]
  | 118 => some [.nilFunc]
  | 119 => some [.pointer none]
  | 120 => some [.nilFunc]
  | 121 => some [.pointer none]
  | 123 => some [.nilFunc]
  | 124 => some [.nilFunc]
  | 125 => some [.pointer none, .pointer none, .pointer none, .string ByteArray.empty]
  | 126 => some [.pointer none, .pointer none, .pointer none, .string ByteArray.empty]
  | 130 => some [.nilFunc]
  | 131 => some [.int .u8 0]
  | 132 => some [.int .u8 0]
  | 133 => some [.nilFunc]
  | 134 => some [.pointer none]
  | 135 => some [.int .i32 0]
  | 136 => some [.int .i32 0]
  | 137 => some [.int .u64 0, .int .u64 0, .int .u32 0, .int .u8 0, .int .u8 0, .int .u8 0, .int .u8 0, .nilFunc, .pointer none, .int .i32 0, .int .i32 0]
  | 138 => some [.int .u64 0, .int .u64 0, .int .u32 0, .int .u8 0, .int .u8 0, .int .u8 0, .int .u8 0, .nilFunc, .pointer none, .int .i32 0, .int .i32 0]
  | _ => none

def eKnd : TypeId → Option TypeDesc
  | 2 => some (.int .i64)
  | 3 => some (.int .i64)
  | 4 => some (.bool)
  | 5 => some (.int .u8)
  | 6 => some (.int .u8)
  | 9 => some (.string)
  | 10 => some (.string)
  | 11 => some (.string)
  | 12 => some (.int .u64)
  | 21 => some (.int .i32)
  | 89 => some (.int .u64)
  | 98 => some (.int .u64)
  | 104 => some (.int .i64)
  | 112 => some (.int .u32)
  | 115 => some (.int .u64)
  | 131 => some (.int .u8)
  | 132 => some (.int .u8)
  | 135 => some (.int .i32)
  | 136 => some (.int .i32)
  | _ => none

def eBld : TypeId → Option (List (Nat × Nat))
  | 7 => some [(0, 1), (1, 1), (2, 1), (3, 1)]
  | 8 => some [(0, 1), (1, 1), (2, 1), (3, 1)]
  | 13 => some [(0, 1), (1, 1)]
  | 14 => some [(0, 1), (1, 1)]
  | 18 => some [(0, 1)]
  | 19 => some [(0, 1)]
  | 23 => some [(0, 1), (1, 1)]
  | 24 => some [(0, 1), (1, 1)]
  | 26 => some [(0, 1), (1, 1)]
  | 90 => some [(0, 1), (1, 1), (2, 1)]
  | 91 => some [(0, 1), (1, 1), (2, 1)]
  | 125 => some [(0, 1), (1, 1), (2, 1), (3, 1)]
  | 126 => some [(0, 1), (1, 1), (2, 1), (3, 1)]
  | 137 => some [(0, 1), (1, 1), (2, 1), (3, 1), (4, 1), (5, 1), (6, 1), (7, 1), (8, 1), (9, 1), (10, 1)]
  | 138 => some [(0, 1), (1, 1), (2, 1), (3, 1), (4, 1), (5, 1), (6, 1), (7, 1), (8, 1), (9, 1), (10, 1)]
  | _ => none

def ePts : TypeId → Bool
  | 23 => true
  | 24 => true
  | 26 => true
  | _ => false

def env : Env := { sl := eSl, var := eVar, fld := eFld, zero := eZero, knd := eKnd, bld := eBld, pts := ePts }

theorem info1 : (Try.prog.info? 1).map (fun i => (i.zero, i.size, i.bytes)) = some (some (.nilFunc), 1, 8) := by kernel_rfl
theorem info2 : (Try.prog.info? 2).map (fun i => (i.zero, i.size, i.bytes)) = some (some (.int .i64 0), 1, 8) := by kernel_rfl
theorem info3 : (Try.prog.info? 3).map (fun i => (i.zero, i.size, i.bytes)) = some (some (.int .i64 0), 1, 8) := by kernel_rfl
theorem info4 : (Try.prog.info? 4).map (fun i => (i.zero, i.size, i.bytes)) = some (some (.bool false), 1, 1) := by kernel_rfl
theorem info5 : (Try.prog.info? 5).map (fun i => (i.zero, i.size, i.bytes)) = some (some (.int .u8 0), 1, 1) := by kernel_rfl
theorem info6 : (Try.prog.info? 6).map (fun i => (i.zero, i.size, i.bytes)) = some (some (.int .u8 0), 1, 1) := by kernel_rfl
theorem info7 : (Try.prog.info? 7).map (fun i => (i.zero, i.size, i.bytes)) = some (some (.agg #[.int .i64 0, .int .i64 0, .bool false, .int .u8 0]), 4, 24) := by kernel_rfl
theorem info8 : (Try.prog.info? 8).map (fun i => (i.zero, i.size, i.bytes)) = some (some (.agg #[.int .i64 0, .int .i64 0, .bool false, .int .u8 0]), 4, 24) := by kernel_rfl
theorem info9 : (Try.prog.info? 9).map (fun i => (i.zero, i.size, i.bytes)) = some (some (.string ByteArray.empty), 1, 16) := by kernel_rfl
theorem info10 : (Try.prog.info? 10).map (fun i => (i.zero, i.size, i.bytes)) = some (some (.string ByteArray.empty), 1, 16) := by kernel_rfl
theorem info11 : (Try.prog.info? 11).map (fun i => (i.zero, i.size, i.bytes)) = some (some (.string ByteArray.empty), 1, 16) := by kernel_rfl
theorem info12 : (Try.prog.info? 12).map (fun i => (i.zero, i.size, i.bytes)) = some (some (.int .u64 0), 1, 8) := by kernel_rfl
theorem info13 : (Try.prog.info? 13).map (fun i => (i.zero, i.size, i.bytes)) = some (some (.agg #[.string ByteArray.empty, .int .u64 0]), 2, 24) := by kernel_rfl
theorem info14 : (Try.prog.info? 14).map (fun i => (i.zero, i.size, i.bytes)) = some (some (.agg #[.string ByteArray.empty, .int .u64 0]), 2, 24) := by kernel_rfl
theorem info15 : (Try.prog.info? 15).map (fun i => (i.zero, i.size, i.bytes)) = some (some (.pointer none), 1, 8) := by kernel_rfl
theorem info16 : (Try.prog.info? 16).map (fun i => (i.zero, i.size, i.bytes)) = some (some (.pointer none), 1, 8) := by kernel_rfl
theorem info17 : (Try.prog.info? 17).map (fun i => (i.zero, i.size, i.bytes)) = some (some (.pointer none), 1, 8) := by kernel_rfl
theorem info18 : (Try.prog.info? 18).map (fun i => (i.zero, i.size, i.bytes)) = some (some (.agg #[.pointer none]), 1, 8) := by kernel_rfl
theorem info19 : (Try.prog.info? 19).map (fun i => (i.zero, i.size, i.bytes)) = some (some (.agg #[.pointer none]), 1, 8) := by kernel_rfl
theorem info21 : (Try.prog.info? 21).map (fun i => (i.zero, i.size, i.bytes)) = some (some (.int .i32 0), 1, 4) := by kernel_rfl
theorem info22 : (Try.prog.info? 22).map (fun i => (i.zero, i.size, i.bytes)) = some (some (.nilFunc), 1, 8) := by kernel_rfl
theorem info23 : (Try.prog.info? 23).map (fun i => (i.zero, i.size, i.bytes)) = some (some (.agg #[.int .i64 0, .int .i64 0]), 2, 16) := by kernel_rfl
theorem info24 : (Try.prog.info? 24).map (fun i => (i.zero, i.size, i.bytes)) = some (some (.agg #[.int .i64 0, .int .i64 0]), 2, 16) := by kernel_rfl
theorem info25 : (Try.prog.info? 25).map (fun i => (i.zero, i.size, i.bytes)) = some (some (.nilFunc), 1, 8) := by kernel_rfl
theorem info26 : (Try.prog.info? 26).map (fun i => (i.zero, i.size, i.bytes)) = some (some (.agg #[.int .i64 0, .int .i64 0]), 2, 16) := by kernel_rfl
theorem info27 : (Try.prog.info? 27).map (fun i => (i.zero, i.size, i.bytes)) = some (some (.nilFunc), 1, 8) := by kernel_rfl
theorem info28 : (Try.prog.info? 28).map (fun i => (i.zero, i.size, i.bytes)) = some (some (.nilFunc), 1, 8) := by kernel_rfl
theorem info29 : (Try.prog.info? 29).map (fun i => (i.zero, i.size, i.bytes)) = some (some (.nilFunc), 1, 8) := by kernel_rfl
theorem info31 : (Try.prog.info? 31).map (fun i => (i.zero, i.size, i.bytes)) = some (some (.nilFunc), 1, 8) := by kernel_rfl
theorem info32 : (Try.prog.info? 32).map (fun i => (i.zero, i.size, i.bytes)) = some (some (.nilFunc), 1, 8) := by kernel_rfl
theorem info33 : (Try.prog.info? 33).map (fun i => (i.zero, i.size, i.bytes)) = some (some (.slice none 0 0), 1, 24) := by kernel_rfl
theorem info34 : (Try.prog.info? 34).map (fun i => (i.zero, i.size, i.bytes)) = some (some (.nilFunc), 1, 8) := by kernel_rfl
theorem info35 : (Try.prog.info? 35).map (fun i => (i.zero, i.size, i.bytes)) = some (some (.nilFunc), 1, 8) := by kernel_rfl
theorem info37 : (Try.prog.info? 37).map (fun i => (i.zero, i.size, i.bytes)) = some (some (.nilFunc), 1, 8) := by kernel_rfl
theorem info38 : (Try.prog.info? 38).map (fun i => (i.zero, i.size, i.bytes)) = some (some (.nilFunc), 1, 8) := by kernel_rfl
theorem info39 : (Try.prog.info? 39).map (fun i => (i.zero, i.size, i.bytes)) = some (some (.nilFunc), 1, 8) := by kernel_rfl
theorem info40 : (Try.prog.info? 40).map (fun i => (i.zero, i.size, i.bytes)) = some (some (.slice none 0 0), 1, 24) := by kernel_rfl
theorem info41 : (Try.prog.info? 41).map (fun i => (i.zero, i.size, i.bytes)) = some (some (.nilFunc), 1, 8) := by kernel_rfl
theorem info42 : (Try.prog.info? 42).map (fun i => (i.zero, i.size, i.bytes)) = some (some (.nilFunc), 1, 8) := by kernel_rfl
theorem info43 : (Try.prog.info? 43).map (fun i => (i.zero, i.size, i.bytes)) = some (some (.slice none 0 0), 1, 24) := by kernel_rfl
theorem info44 : (Try.prog.info? 44).map (fun i => (i.zero, i.size, i.bytes)) = some (some (.nilFunc), 1, 8) := by kernel_rfl
theorem info45 : (Try.prog.info? 45).map (fun i => (i.zero, i.size, i.bytes)) = some (some (.nilFunc), 1, 8) := by kernel_rfl
theorem info46 : (Try.prog.info? 46).map (fun i => (i.zero, i.size, i.bytes)) = some (some (.nilFunc), 1, 8) := by kernel_rfl
theorem info47 : (Try.prog.info? 47).map (fun i => (i.zero, i.size, i.bytes)) = some (some (.nilFunc), 1, 8) := by kernel_rfl
theorem info48 : (Try.prog.info? 48).map (fun i => (i.zero, i.size, i.bytes)) = some (some (.slice none 0 0), 1, 24) := by kernel_rfl
theorem info49 : (Try.prog.info? 49).map (fun i => (i.zero, i.size, i.bytes)) = some (some (.nilFunc), 1, 8) := by kernel_rfl
theorem info50 : (Try.prog.info? 50).map (fun i => (i.zero, i.size, i.bytes)) = some (some (.nilFunc), 1, 8) := by kernel_rfl
theorem info51 : (Try.prog.info? 51).map (fun i => (i.zero, i.size, i.bytes)) = some (some (.nilFunc), 1, 8) := by kernel_rfl
theorem info53 : (Try.prog.info? 53).map (fun i => (i.zero, i.size, i.bytes)) = some (some (.nilFunc), 1, 8) := by kernel_rfl
theorem info54 : (Try.prog.info? 54).map (fun i => (i.zero, i.size, i.bytes)) = some (some (.nilFunc), 1, 8) := by kernel_rfl
theorem info55 : (Try.prog.info? 55).map (fun i => (i.zero, i.size, i.bytes)) = some (some (.nilFunc), 1, 8) := by kernel_rfl
theorem info57 : (Try.prog.info? 57).map (fun i => (i.zero, i.size, i.bytes)) = some (some (.nilFunc), 1, 8) := by kernel_rfl
theorem info58 : (Try.prog.info? 58).map (fun i => (i.zero, i.size, i.bytes)) = some (some (.nilFunc), 1, 8) := by kernel_rfl
theorem info60 : (Try.prog.info? 60).map (fun i => (i.zero, i.size, i.bytes)) = some (some (.nilFunc), 1, 8) := by kernel_rfl
theorem info61 : (Try.prog.info? 61).map (fun i => (i.zero, i.size, i.bytes)) = some (some (.nilFunc), 1, 8) := by kernel_rfl
theorem info62 : (Try.prog.info? 62).map (fun i => (i.zero, i.size, i.bytes)) = some (some (.nilFunc), 1, 8) := by kernel_rfl
theorem info63 : (Try.prog.info? 63).map (fun i => (i.zero, i.size, i.bytes)) = some (some (.nilFunc), 1, 8) := by kernel_rfl
theorem info64 : (Try.prog.info? 64).map (fun i => (i.zero, i.size, i.bytes)) = some (some (.nilFunc), 1, 8) := by kernel_rfl
theorem info65 : (Try.prog.info? 65).map (fun i => (i.zero, i.size, i.bytes)) = some (some (.nilFunc), 1, 8) := by kernel_rfl
theorem info66 : (Try.prog.info? 66).map (fun i => (i.zero, i.size, i.bytes)) = some (some (.nilFunc), 1, 8) := by kernel_rfl
theorem info67 : (Try.prog.info? 67).map (fun i => (i.zero, i.size, i.bytes)) = some (some (.nilFunc), 1, 8) := by kernel_rfl
theorem info68 : (Try.prog.info? 68).map (fun i => (i.zero, i.size, i.bytes)) = some (some (.nilFunc), 1, 8) := by kernel_rfl
theorem info69 : (Try.prog.info? 69).map (fun i => (i.zero, i.size, i.bytes)) = some (some (.nilFunc), 1, 8) := by kernel_rfl
theorem info70 : (Try.prog.info? 70).map (fun i => (i.zero, i.size, i.bytes)) = some (some (.nilFunc), 1, 8) := by kernel_rfl
theorem info71 : (Try.prog.info? 71).map (fun i => (i.zero, i.size, i.bytes)) = some (some (.pointer none), 1, 8) := by kernel_rfl
theorem info72 : (Try.prog.info? 72).map (fun i => (i.zero, i.size, i.bytes)) = some (some (.nilFunc), 1, 8) := by kernel_rfl
theorem info73 : (Try.prog.info? 73).map (fun i => (i.zero, i.size, i.bytes)) = some (some (.nilFunc), 1, 8) := by kernel_rfl
theorem info75 : (Try.prog.info? 75).map (fun i => (i.zero, i.size, i.bytes)) = some (some (.nilFunc), 1, 8) := by kernel_rfl
theorem info76 : (Try.prog.info? 76).map (fun i => (i.zero, i.size, i.bytes)) = some (some (.nilFunc), 1, 8) := by kernel_rfl
theorem info77 : (Try.prog.info? 77).map (fun i => (i.zero, i.size, i.bytes)) = some (some (.nilFunc), 1, 8) := by kernel_rfl
theorem info79 : (Try.prog.info? 79).map (fun i => (i.zero, i.size, i.bytes)) = some (some (.nilFunc), 1, 8) := by kernel_rfl
theorem info80 : (Try.prog.info? 80).map (fun i => (i.zero, i.size, i.bytes)) = some (some (.nilFunc), 1, 8) := by kernel_rfl
theorem info81 : (Try.prog.info? 81).map (fun i => (i.zero, i.size, i.bytes)) = some (some (.nilFunc), 1, 8) := by kernel_rfl
theorem info82 : (Try.prog.info? 82).map (fun i => (i.zero, i.size, i.bytes)) = some (some (.nilFunc), 1, 8) := by kernel_rfl
theorem info83 : (Try.prog.info? 83).map (fun i => (i.zero, i.size, i.bytes)) = some (some (.nilFunc), 1, 8) := by kernel_rfl
theorem info84 : (Try.prog.info? 84).map (fun i => (i.zero, i.size, i.bytes)) = some (some (.nilFunc), 1, 8) := by kernel_rfl
theorem info85 : (Try.prog.info? 85).map (fun i => (i.zero, i.size, i.bytes)) = some (some (.nilFunc), 1, 8) := by kernel_rfl
theorem info86 : (Try.prog.info? 86).map (fun i => (i.zero, i.size, i.bytes)) = some (some (.nilFunc), 1, 8) := by kernel_rfl
theorem info87 : (Try.prog.info? 87).map (fun i => (i.zero, i.size, i.bytes)) = some (some (.nilFunc), 1, 8) := by kernel_rfl
theorem info88 : (Try.prog.info? 88).map (fun i => (i.zero, i.size, i.bytes)) = some (some (.nilFunc), 1, 8) := by kernel_rfl
theorem info89 : (Try.prog.info? 89).map (fun i => (i.zero, i.size, i.bytes)) = some (some (.int .u64 0), 1, 8) := by kernel_rfl
theorem info90 : (Try.prog.info? 90).map (fun i => (i.zero, i.size, i.bytes)) = some (some (.agg #[.slice none 0 0, .int .i64 0, .int .u64 0]), 3, 40) := by kernel_rfl
theorem info91 : (Try.prog.info? 91).map (fun i => (i.zero, i.size, i.bytes)) = some (some (.agg #[.slice none 0 0, .int .i64 0, .int .u64 0]), 3, 40) := by kernel_rfl
theorem info92 : (Try.prog.info? 92).map (fun i => (i.zero, i.size, i.bytes)) = some (some (.nilFunc), 1, 8) := by kernel_rfl
theorem info93 : (Try.prog.info? 93).map (fun i => (i.zero, i.size, i.bytes)) = some (some (.nilFunc), 1, 8) := by kernel_rfl
theorem info94 : (Try.prog.info? 94).map (fun i => (i.zero, i.size, i.bytes)) = some (some (.nilFunc), 1, 8) := by kernel_rfl
theorem info95 : (Try.prog.info? 95).map (fun i => (i.zero, i.size, i.bytes)) = some (some (.nilFunc), 1, 8) := by kernel_rfl
theorem info96 : (Try.prog.info? 96).map (fun i => (i.zero, i.size, i.bytes)) = some (some (.nilFunc), 1, 8) := by kernel_rfl
theorem info97 : (Try.prog.info? 97).map (fun i => (i.zero, i.size, i.bytes)) = some (some (.nilFunc), 1, 8) := by kernel_rfl
theorem info98 : (Try.prog.info? 98).map (fun i => (i.zero, i.size, i.bytes)) = some (some (.int .u64 0), 1, 8) := by kernel_rfl
theorem info99 : (Try.prog.info? 99).map (fun i => (i.zero, i.size, i.bytes)) = some (some (.nilFunc), 1, 8) := by kernel_rfl
theorem info100 : (Try.prog.info? 100).map (fun i => (i.zero, i.size, i.bytes)) = some (some (.nilFunc), 1, 8) := by kernel_rfl
theorem info101 : (Try.prog.info? 101).map (fun i => (i.zero, i.size, i.bytes)) = some (some (.nilFunc), 1, 8) := by kernel_rfl
theorem info102 : (Try.prog.info? 102).map (fun i => (i.zero, i.size, i.bytes)) = some (some (.nilFunc), 1, 8) := by kernel_rfl
theorem info103 : (Try.prog.info? 103).map (fun i => (i.zero, i.size, i.bytes)) = some (some (.nilFunc), 1, 8) := by kernel_rfl
theorem info104 : (Try.prog.info? 104).map (fun i => (i.zero, i.size, i.bytes)) = some (some (.int .i64 0), 1, 8) := by kernel_rfl
theorem info106 : (Try.prog.info? 106).map (fun i => (i.zero, i.size, i.bytes)) = some (some (.nilFunc), 1, 8) := by kernel_rfl
theorem info107 : (Try.prog.info? 107).map (fun i => (i.zero, i.size, i.bytes)) = some (some (.nilFunc), 1, 8) := by kernel_rfl
theorem info108 : (Try.prog.info? 108).map (fun i => (i.zero, i.size, i.bytes)) = some (some (.nilFunc), 1, 8) := by kernel_rfl
theorem info110 : (Try.prog.info? 110).map (fun i => (i.zero, i.size, i.bytes)) = some (some (.nilFunc), 1, 8) := by kernel_rfl
theorem info111 : (Try.prog.info? 111).map (fun i => (i.zero, i.size, i.bytes)) = some (some (.nilFunc), 1, 8) := by kernel_rfl
theorem info112 : (Try.prog.info? 112).map (fun i => (i.zero, i.size, i.bytes)) = some (some (.int .u32 0), 1, 4) := by kernel_rfl
theorem info113 : (Try.prog.info? 113).map (fun i => (i.zero, i.size, i.bytes)) = some (some (.nilFunc), 1, 8) := by kernel_rfl
theorem info114 : (Try.prog.info? 114).map (fun i => (i.zero, i.size, i.bytes)) = some (some (.slice none 0 0), 1, 24) := by kernel_rfl
theorem info115 : (Try.prog.info? 115).map (fun i => (i.zero, i.size, i.bytes)) = some (some (.int .u64 0), 1, 8) := by kernel_rfl
theorem info116 : (Try.prog.info? 116).map (fun i => (i.zero, i.size, i.bytes)) = some (some (.nilFunc), 1, 8) := by kernel_rfl
theorem info117 : (Try.prog.info? 117).map (fun i => (i.zero, i.size, i.bytes)) = some (some (.nilFunc), 1, 8) := by kernel_rfl
theorem info118 : (Try.prog.info? 118).map (fun i => (i.zero, i.size, i.bytes)) = some (some (.nilFunc), 1, 8) := by kernel_rfl
theorem info119 : (Try.prog.info? 119).map (fun i => (i.zero, i.size, i.bytes)) = some (some (.pointer none), 1, 8) := by kernel_rfl
theorem info120 : (Try.prog.info? 120).map (fun i => (i.zero, i.size, i.bytes)) = some (some (.nilFunc), 1, 8) := by kernel_rfl
theorem info121 : (Try.prog.info? 121).map (fun i => (i.zero, i.size, i.bytes)) = some (some (.pointer none), 1, 8) := by kernel_rfl
theorem info123 : (Try.prog.info? 123).map (fun i => (i.zero, i.size, i.bytes)) = some (some (.nilFunc), 1, 8) := by kernel_rfl
theorem info124 : (Try.prog.info? 124).map (fun i => (i.zero, i.size, i.bytes)) = some (some (.nilFunc), 1, 8) := by kernel_rfl
theorem info125 : (Try.prog.info? 125).map (fun i => (i.zero, i.size, i.bytes)) = some (some (.agg #[.pointer none, .pointer none, .pointer none, .string ByteArray.empty]), 4, 40) := by kernel_rfl
theorem info126 : (Try.prog.info? 126).map (fun i => (i.zero, i.size, i.bytes)) = some (some (.agg #[.pointer none, .pointer none, .pointer none, .string ByteArray.empty]), 4, 40) := by kernel_rfl
theorem info130 : (Try.prog.info? 130).map (fun i => (i.zero, i.size, i.bytes)) = some (some (.nilFunc), 1, 8) := by kernel_rfl
theorem info131 : (Try.prog.info? 131).map (fun i => (i.zero, i.size, i.bytes)) = some (some (.int .u8 0), 1, 1) := by kernel_rfl
theorem info132 : (Try.prog.info? 132).map (fun i => (i.zero, i.size, i.bytes)) = some (some (.int .u8 0), 1, 1) := by kernel_rfl
theorem info133 : (Try.prog.info? 133).map (fun i => (i.zero, i.size, i.bytes)) = some (some (.nilFunc), 1, 8) := by kernel_rfl
theorem info134 : (Try.prog.info? 134).map (fun i => (i.zero, i.size, i.bytes)) = some (some (.pointer none), 1, 8) := by kernel_rfl
theorem info135 : (Try.prog.info? 135).map (fun i => (i.zero, i.size, i.bytes)) = some (some (.int .i32 0), 1, 4) := by kernel_rfl
theorem info136 : (Try.prog.info? 136).map (fun i => (i.zero, i.size, i.bytes)) = some (some (.int .i32 0), 1, 4) := by kernel_rfl
theorem info137 : (Try.prog.info? 137).map (fun i => (i.zero, i.size, i.bytes)) = some (some (.agg #[.int .u64 0, .int .u64 0, .int .u32 0, .int .u8 0, .int .u8 0, .int .u8 0, .int .u8 0, .nilFunc, .pointer none, .int .i32 0, .int .i32 0]), 11, 48) := by kernel_rfl
theorem info138 : (Try.prog.info? 138).map (fun i => (i.zero, i.size, i.bytes)) = some (some (.agg #[.int .u64 0, .int .u64 0, .int .u32 0, .int .u8 0, .int .u8 0, .int .u8 0, .int .u8 0, .nilFunc, .pointer none, .int .i32 0, .int .i32 0]), 11, 48) := by kernel_rfl

theorem env_sl : ∀ t e, eSl t = some e → ∃ et i z, Try.prog.underlying t = some (.slice et) ∧ Try.prog.info? et = some i ∧ i.size = e.sz ∧ i.zero = some z ∧ z.cells.size = e.sz ∧ i.bytes ≤ 64 ∧
    ∀ j, j < e.sz → (e.enc e.d).getD j .junk = .v (z.cells.toList.getD j undef) ∨ ∃ e', (e.enc e.d).getD j .junk = .rd e' [] ∧ z.cells.toList.getD j undef = .slice none 0 0 := by
  intro t e h
  unfold eSl at h
  split at h
  · cases h; obtain ⟨i, h1, h2, h3, h4⟩ := info_parts info2
    exact ⟨2, i, _, Try.underlying33, h1, h3, h2, rfl, by rw [h4]; decide, fun j hj => .inl (by rcases j with _ | j <;> first | rfl | (exact absurd hj (by simp [ETy.sz])))⟩
  · cases h; obtain ⟨i, h1, h2, h3, h4⟩ := info_parts info24
    exact ⟨24, i, _, Try.underlying40, h1, h3, h2, rfl, by rw [h4]; decide, fun j hj => .inl (by rcases j with _ | _ | j <;> first | rfl | (exact absurd hj (by simp [ETy.sz])))⟩
  · cases h; obtain ⟨i, h1, h2, h3, h4⟩ := info_parts info26
    exact ⟨26, i, _, Try.underlying43, h1, h3, h2, rfl, by rw [h4]; decide, fun j hj => .inl (by rcases j with _ | _ | j <;> first | rfl | (exact absurd hj (by simp [ETy.sz])))⟩
  · cases h; obtain ⟨i, h1, h2, h3, h4⟩ := info_parts info5
    exact ⟨5, i, _, Try.underlying48, h1, h3, h2, rfl, by rw [h4]; decide, fun j hj => .inl (by rcases j with _ | j <;> first | rfl | (exact absurd hj (by simp [ETy.sz])))⟩
  · cases h; obtain ⟨i, h1, h2, h3, h4⟩ := info_parts info3
    exact ⟨3, i, _, Try.underlying114, h1, h3, h2, rfl, by rw [h4]; decide, fun j hj => .inl (by rcases j with _ | j <;> first | rfl | (exact absurd hj (by simp [ETy.sz])))⟩
  · cases h

theorem info_two {P : Program} {e : TypeId} {size bytes : Nat} (h : (P.info? e).map (fun i => (i.size, i.bytes)) = some (size, bytes)) : ∃ i, P.info? e = some i ∧ i.size = size := by
  obtain ⟨i, hi, hzz⟩ := Option.map_eq_some_iff.1 h
  simp only [Prod.mk.injEq] at hzz
  exact ⟨i, hi, hzz.1⟩
theorem info_three {P : Program} {e : TypeId} {z : Option Value} {size bytes : Nat} (h : (P.info? e).map (fun i => (i.zero, i.size, i.bytes)) = some (z, size, bytes)) : ∃ i, P.info? e = some i ∧ i.size = size := by
  obtain ⟨i, hi, hzz⟩ := Option.map_eq_some_iff.1 h
  simp only [Prod.mk.injEq] at hzz
  exact ⟨i, hi, hzz.2.1⟩
theorem env_var : ∀ t a s, eVar t = some (a, s) → ∃ d i, Try.prog.underlying t = some d ∧ (match d with | .struct _ | .array _ _ => true | _ => false) = a ∧ Try.prog.info? t = some i ∧ i.size = s := by
  intro t a s h
  unfold eVar at h
  split at h
  · cases h; obtain ⟨i, h1, h2⟩ := info_three info1; exact ⟨_, i, Try.underlying1, rfl, h1, h2⟩
  · cases h; obtain ⟨i, h1, h2⟩ := info_three info2; exact ⟨_, i, Try.underlying2, rfl, h1, h2⟩
  · cases h; obtain ⟨i, h1, h2⟩ := info_three info3; exact ⟨_, i, Try.underlying3, rfl, h1, h2⟩
  · cases h; obtain ⟨i, h1, h2⟩ := info_three info4; exact ⟨_, i, Try.underlying4, rfl, h1, h2⟩
  · cases h; obtain ⟨i, h1, h2⟩ := info_three info5; exact ⟨_, i, Try.underlying5, rfl, h1, h2⟩
  · cases h; obtain ⟨i, h1, h2⟩ := info_three info6; exact ⟨_, i, Try.underlying6, rfl, h1, h2⟩
  · cases h; obtain ⟨i, h1, h2⟩ := info_three info7; exact ⟨_, i, Try.underlying7, rfl, h1, h2⟩
  · cases h; obtain ⟨i, h1, h2⟩ := info_three info8; exact ⟨_, i, Try.underlying8, rfl, h1, h2⟩
  · cases h; obtain ⟨i, h1, h2⟩ := info_three info9; exact ⟨_, i, Try.underlying9, rfl, h1, h2⟩
  · cases h; obtain ⟨i, h1, h2⟩ := info_three info10; exact ⟨_, i, Try.underlying10, rfl, h1, h2⟩
  · cases h; obtain ⟨i, h1, h2⟩ := info_three info11; exact ⟨_, i, Try.underlying11, rfl, h1, h2⟩
  · cases h; obtain ⟨i, h1, h2⟩ := info_three info12; exact ⟨_, i, Try.underlying12, rfl, h1, h2⟩
  · cases h; obtain ⟨i, h1, h2⟩ := info_three info13; exact ⟨_, i, Try.underlying13, rfl, h1, h2⟩
  · cases h; obtain ⟨i, h1, h2⟩ := info_three info14; exact ⟨_, i, Try.underlying14, rfl, h1, h2⟩
  · cases h; obtain ⟨i, h1, h2⟩ := info_three info15; exact ⟨_, i, Try.underlying15, rfl, h1, h2⟩
  · cases h; obtain ⟨i, h1, h2⟩ := info_three info16; exact ⟨_, i, Try.underlying16, rfl, h1, h2⟩
  · cases h; obtain ⟨i, h1, h2⟩ := info_three info17; exact ⟨_, i, Try.underlying17, rfl, h1, h2⟩
  · cases h; obtain ⟨i, h1, h2⟩ := info_three info18; exact ⟨_, i, Try.underlying18, rfl, h1, h2⟩
  · cases h; obtain ⟨i, h1, h2⟩ := info_three info19; exact ⟨_, i, Try.underlying19, rfl, h1, h2⟩
  · cases h; obtain ⟨i, h1, h2⟩ := info_three info21; exact ⟨_, i, Try.underlying21, rfl, h1, h2⟩
  · cases h; obtain ⟨i, h1, h2⟩ := info_three info22; exact ⟨_, i, Try.underlying22, rfl, h1, h2⟩
  · cases h; obtain ⟨i, h1, h2⟩ := info_three info23; exact ⟨_, i, Try.underlying23, rfl, h1, h2⟩
  · cases h; obtain ⟨i, h1, h2⟩ := info_three info24; exact ⟨_, i, Try.underlying24, rfl, h1, h2⟩
  · cases h; obtain ⟨i, h1, h2⟩ := info_three info25; exact ⟨_, i, Try.underlying25, rfl, h1, h2⟩
  · cases h; obtain ⟨i, h1, h2⟩ := info_three info26; exact ⟨_, i, Try.underlying26, rfl, h1, h2⟩
  · cases h; obtain ⟨i, h1, h2⟩ := info_three info27; exact ⟨_, i, Try.underlying27, rfl, h1, h2⟩
  · cases h; obtain ⟨i, h1, h2⟩ := info_three info28; exact ⟨_, i, Try.underlying28, rfl, h1, h2⟩
  · cases h; obtain ⟨i, h1, h2⟩ := info_three info29; exact ⟨_, i, Try.underlying29, rfl, h1, h2⟩
  · cases h; obtain ⟨i, h1, h2⟩ := info_three info31; exact ⟨_, i, Try.underlying31, rfl, h1, h2⟩
  · cases h; obtain ⟨i, h1, h2⟩ := info_three info32; exact ⟨_, i, Try.underlying32, rfl, h1, h2⟩
  · cases h; obtain ⟨i, h1, h2⟩ := info_three info33; exact ⟨_, i, Try.underlying33, rfl, h1, h2⟩
  · cases h; obtain ⟨i, h1, h2⟩ := info_three info34; exact ⟨_, i, Try.underlying34, rfl, h1, h2⟩
  · cases h; obtain ⟨i, h1, h2⟩ := info_three info35; exact ⟨_, i, Try.underlying35, rfl, h1, h2⟩
  · cases h; obtain ⟨i, h1, h2⟩ := info_three info37; exact ⟨_, i, Try.underlying37, rfl, h1, h2⟩
  · cases h; obtain ⟨i, h1, h2⟩ := info_three info38; exact ⟨_, i, Try.underlying38, rfl, h1, h2⟩
  · cases h; obtain ⟨i, h1, h2⟩ := info_three info39; exact ⟨_, i, Try.underlying39, rfl, h1, h2⟩
  · cases h; obtain ⟨i, h1, h2⟩ := info_three info40; exact ⟨_, i, Try.underlying40, rfl, h1, h2⟩
  · cases h; obtain ⟨i, h1, h2⟩ := info_three info41; exact ⟨_, i, Try.underlying41, rfl, h1, h2⟩
  · cases h; obtain ⟨i, h1, h2⟩ := info_three info42; exact ⟨_, i, Try.underlying42, rfl, h1, h2⟩
  · cases h; obtain ⟨i, h1, h2⟩ := info_three info43; exact ⟨_, i, Try.underlying43, rfl, h1, h2⟩
  · cases h; obtain ⟨i, h1, h2⟩ := info_three info44; exact ⟨_, i, Try.underlying44, rfl, h1, h2⟩
  · cases h; obtain ⟨i, h1, h2⟩ := info_three info45; exact ⟨_, i, Try.underlying45, rfl, h1, h2⟩
  · cases h; obtain ⟨i, h1, h2⟩ := info_three info46; exact ⟨_, i, Try.underlying46, rfl, h1, h2⟩
  · cases h; obtain ⟨i, h1, h2⟩ := info_three info47; exact ⟨_, i, Try.underlying47, rfl, h1, h2⟩
  · cases h; obtain ⟨i, h1, h2⟩ := info_three info48; exact ⟨_, i, Try.underlying48, rfl, h1, h2⟩
  · cases h; obtain ⟨i, h1, h2⟩ := info_three info49; exact ⟨_, i, Try.underlying49, rfl, h1, h2⟩
  · cases h; obtain ⟨i, h1, h2⟩ := info_three info50; exact ⟨_, i, Try.underlying50, rfl, h1, h2⟩
  · cases h; obtain ⟨i, h1, h2⟩ := info_three info51; exact ⟨_, i, Try.underlying51, rfl, h1, h2⟩
  · cases h; obtain ⟨i, h1, h2⟩ := info_three info53; exact ⟨_, i, Try.underlying53, rfl, h1, h2⟩
  · cases h; obtain ⟨i, h1, h2⟩ := info_three info54; exact ⟨_, i, Try.underlying54, rfl, h1, h2⟩
  · cases h; obtain ⟨i, h1, h2⟩ := info_three info55; exact ⟨_, i, Try.underlying55, rfl, h1, h2⟩
  · cases h; obtain ⟨i, h1, h2⟩ := info_three info57; exact ⟨_, i, Try.underlying57, rfl, h1, h2⟩
  · cases h; obtain ⟨i, h1, h2⟩ := info_three info58; exact ⟨_, i, Try.underlying58, rfl, h1, h2⟩
  · cases h; obtain ⟨i, h1, h2⟩ := info_three info60; exact ⟨_, i, Try.underlying60, rfl, h1, h2⟩
  · cases h; obtain ⟨i, h1, h2⟩ := info_three info61; exact ⟨_, i, Try.underlying61, rfl, h1, h2⟩
  · cases h; obtain ⟨i, h1, h2⟩ := info_three info62; exact ⟨_, i, Try.underlying62, rfl, h1, h2⟩
  · cases h; obtain ⟨i, h1, h2⟩ := info_three info63; exact ⟨_, i, Try.underlying63, rfl, h1, h2⟩
  · cases h; obtain ⟨i, h1, h2⟩ := info_three info64; exact ⟨_, i, Try.underlying64, rfl, h1, h2⟩
  · cases h; obtain ⟨i, h1, h2⟩ := info_three info65; exact ⟨_, i, Try.underlying65, rfl, h1, h2⟩
  · cases h; obtain ⟨i, h1, h2⟩ := info_three info66; exact ⟨_, i, Try.underlying66, rfl, h1, h2⟩
  · cases h; obtain ⟨i, h1, h2⟩ := info_three info67; exact ⟨_, i, Try.underlying67, rfl, h1, h2⟩
  · cases h; obtain ⟨i, h1, h2⟩ := info_three info68; exact ⟨_, i, Try.underlying68, rfl, h1, h2⟩
  · cases h; obtain ⟨i, h1, h2⟩ := info_three info69; exact ⟨_, i, Try.underlying69, rfl, h1, h2⟩
  · cases h; obtain ⟨i, h1, h2⟩ := info_three info70; exact ⟨_, i, Try.underlying70, rfl, h1, h2⟩
  · cases h; obtain ⟨i, h1, h2⟩ := info_three info71; exact ⟨_, i, Try.underlying71, rfl, h1, h2⟩
  · cases h; obtain ⟨i, h1, h2⟩ := info_three info72; exact ⟨_, i, Try.underlying72, rfl, h1, h2⟩
  · cases h; obtain ⟨i, h1, h2⟩ := info_three info73; exact ⟨_, i, Try.underlying73, rfl, h1, h2⟩
  · cases h; obtain ⟨i, h1, h2⟩ := info_three info75; exact ⟨_, i, Try.underlying75, rfl, h1, h2⟩
  · cases h; obtain ⟨i, h1, h2⟩ := info_three info76; exact ⟨_, i, Try.underlying76, rfl, h1, h2⟩
  · cases h; obtain ⟨i, h1, h2⟩ := info_three info77; exact ⟨_, i, Try.underlying77, rfl, h1, h2⟩
  · cases h; obtain ⟨i, h1, h2⟩ := info_three info79; exact ⟨_, i, Try.underlying79, rfl, h1, h2⟩
  · cases h; obtain ⟨i, h1, h2⟩ := info_three info80; exact ⟨_, i, Try.underlying80, rfl, h1, h2⟩
  · cases h; obtain ⟨i, h1, h2⟩ := info_three info81; exact ⟨_, i, Try.underlying81, rfl, h1, h2⟩
  · cases h; obtain ⟨i, h1, h2⟩ := info_three info82; exact ⟨_, i, Try.underlying82, rfl, h1, h2⟩
  · cases h; obtain ⟨i, h1, h2⟩ := info_three info83; exact ⟨_, i, Try.underlying83, rfl, h1, h2⟩
  · cases h; obtain ⟨i, h1, h2⟩ := info_three info84; exact ⟨_, i, Try.underlying84, rfl, h1, h2⟩
  · cases h; obtain ⟨i, h1, h2⟩ := info_three info85; exact ⟨_, i, Try.underlying85, rfl, h1, h2⟩
  · cases h; obtain ⟨i, h1, h2⟩ := info_three info86; exact ⟨_, i, Try.underlying86, rfl, h1, h2⟩
  · cases h; obtain ⟨i, h1, h2⟩ := info_three info87; exact ⟨_, i, Try.underlying87, rfl, h1, h2⟩
  · cases h; obtain ⟨i, h1, h2⟩ := info_three info88; exact ⟨_, i, Try.underlying88, rfl, h1, h2⟩
  · cases h; obtain ⟨i, h1, h2⟩ := info_three info89; exact ⟨_, i, Try.underlying89, rfl, h1, h2⟩
  · cases h; obtain ⟨i, h1, h2⟩ := info_three info90; exact ⟨_, i, Try.underlying90, rfl, h1, h2⟩
  · cases h; obtain ⟨i, h1, h2⟩ := info_three info91; exact ⟨_, i, Try.underlying91, rfl, h1, h2⟩
  · cases h; obtain ⟨i, h1, h2⟩ := info_three info92; exact ⟨_, i, Try.underlying92, rfl, h1, h2⟩
  · cases h; obtain ⟨i, h1, h2⟩ := info_three info93; exact ⟨_, i, Try.underlying93, rfl, h1, h2⟩
  · cases h; obtain ⟨i, h1, h2⟩ := info_three info94; exact ⟨_, i, Try.underlying94, rfl, h1, h2⟩
  · cases h; obtain ⟨i, h1, h2⟩ := info_three info95; exact ⟨_, i, Try.underlying95, rfl, h1, h2⟩
  · cases h; obtain ⟨i, h1, h2⟩ := info_three info96; exact ⟨_, i, Try.underlying96, rfl, h1, h2⟩
  · cases h; obtain ⟨i, h1, h2⟩ := info_three info97; exact ⟨_, i, Try.underlying97, rfl, h1, h2⟩
  · cases h; obtain ⟨i, h1, h2⟩ := info_three info98; exact ⟨_, i, Try.underlying98, rfl, h1, h2⟩
  · cases h; obtain ⟨i, h1, h2⟩ := info_three info99; exact ⟨_, i, Try.underlying99, rfl, h1, h2⟩
  · cases h; obtain ⟨i, h1, h2⟩ := info_three info100; exact ⟨_, i, Try.underlying100, rfl, h1, h2⟩
  · cases h; obtain ⟨i, h1, h2⟩ := info_three info101; exact ⟨_, i, Try.underlying101, rfl, h1, h2⟩
  · cases h; obtain ⟨i, h1, h2⟩ := info_three info102; exact ⟨_, i, Try.underlying102, rfl, h1, h2⟩
  · cases h; obtain ⟨i, h1, h2⟩ := info_three info103; exact ⟨_, i, Try.underlying103, rfl, h1, h2⟩
  · cases h; obtain ⟨i, h1, h2⟩ := info_three info104; exact ⟨_, i, Try.underlying104, rfl, h1, h2⟩
  · cases h; obtain ⟨i, h1, h2⟩ := info_three info106; exact ⟨_, i, Try.underlying106, rfl, h1, h2⟩
  · cases h; obtain ⟨i, h1, h2⟩ := info_three info107; exact ⟨_, i, Try.underlying107, rfl, h1, h2⟩
  · cases h; obtain ⟨i, h1, h2⟩ := info_three info108; exact ⟨_, i, Try.underlying108, rfl, h1, h2⟩
  · cases h; obtain ⟨i, h1, h2⟩ := info_three info110; exact ⟨_, i, Try.underlying110, rfl, h1, h2⟩
  · cases h; obtain ⟨i, h1, h2⟩ := info_three info111; exact ⟨_, i, Try.underlying111, rfl, h1, h2⟩
  · cases h; obtain ⟨i, h1, h2⟩ := info_three info112; exact ⟨_, i, Try.underlying112, rfl, h1, h2⟩
  · cases h; obtain ⟨i, h1, h2⟩ := info_three info113; exact ⟨_, i, Try.underlying113, rfl, h1, h2⟩
  · cases h; obtain ⟨i, h1, h2⟩ := info_three info114; exact ⟨_, i, Try.underlying114, rfl, h1, h2⟩
  · cases h; obtain ⟨i, h1, h2⟩ := info_three info115; exact ⟨_, i, Try.underlying115, rfl, h1, h2⟩
  · cases h; obtain ⟨i, h1, h2⟩ := info_three info116; exact ⟨_, i, Try.underlying116, rfl, h1, h2⟩
  · cases h; obtain ⟨i, h1, h2⟩ := info_three info117; exact ⟨_, i, Try.underlying117, rfl, h1, h2⟩
  · cases h; obtain ⟨i, h1, h2⟩ := info_three info118; exact ⟨_, i, Try.underlying118, rfl, h1, h2⟩
  · cases h; obtain ⟨i, h1, h2⟩ := info_three info119; exact ⟨_, i, Try.underlying119, rfl, h1, h2⟩
  · cases h; obtain ⟨i, h1, h2⟩ := info_three info120; exact ⟨_, i, Try.underlying120, rfl, h1, h2⟩
  · cases h; obtain ⟨i, h1, h2⟩ := info_three info121; exact ⟨_, i, Try.underlying121, rfl, h1, h2⟩
  · cases h; obtain ⟨i, h1, h2⟩ := info_three info123; exact ⟨_, i, Try.underlying123, rfl, h1, h2⟩
  · cases h; obtain ⟨i, h1, h2⟩ := info_three info124; exact ⟨_, i, Try.underlying124, rfl, h1, h2⟩
  · cases h; obtain ⟨i, h1, h2⟩ := info_three info125; exact ⟨_, i, Try.underlying125, rfl, h1, h2⟩
  · cases h; obtain ⟨i, h1, h2⟩ := info_three info126; exact ⟨_, i, Try.underlying126, rfl, h1, h2⟩
  · cases h; obtain ⟨i, h1, h2⟩ := info_three info130; exact ⟨_, i, Try.underlying130, rfl, h1, h2⟩
  · cases h; obtain ⟨i, h1, h2⟩ := info_three info131; exact ⟨_, i, Try.underlying131, rfl, h1, h2⟩
  · cases h; obtain ⟨i, h1, h2⟩ := info_three info132; exact ⟨_, i, Try.underlying132, rfl, h1, h2⟩
  · cases h; obtain ⟨i, h1, h2⟩ := info_three info133; exact ⟨_, i, Try.underlying133, rfl, h1, h2⟩
  · cases h; obtain ⟨i, h1, h2⟩ := info_three info134; exact ⟨_, i, Try.underlying134, rfl, h1, h2⟩
  · cases h; obtain ⟨i, h1, h2⟩ := info_three info135; exact ⟨_, i, Try.underlying135, rfl, h1, h2⟩
  · cases h; obtain ⟨i, h1, h2⟩ := info_three info136; exact ⟨_, i, Try.underlying136, rfl, h1, h2⟩
  · cases h; obtain ⟨i, h1, h2⟩ := info_three info137; exact ⟨_, i, Try.underlying137, rfl, h1, h2⟩
  · cases h; obtain ⟨i, h1, h2⟩ := info_three info138; exact ⟨_, i, Try.underlying138, rfl, h1, h2⟩
  · cases h

theorem env_fld : ∀ t f o, eFld t f = some o → ∃ fs fl i, Try.prog.underlying t = some (.struct fs) ∧ fs[f]? = some fl ∧ fl.offset = o ∧ Try.prog.info? fl.type = some i ∧ i.size ≠ 0 := by
  intro t f o h
  unfold eFld at h
  split at h
  · cases h; obtain ⟨i, h1, h2⟩ := info_three info2; exact ⟨_, _, i, Try.underlying7, rfl, rfl, h1, by rw [h2]; decide⟩
  · cases h; obtain ⟨i, h1, h2⟩ := info_three info3; exact ⟨_, _, i, Try.underlying7, rfl, rfl, h1, by rw [h2]; decide⟩
  · cases h; obtain ⟨i, h1, h2⟩ := info_three info4; exact ⟨_, _, i, Try.underlying7, rfl, rfl, h1, by rw [h2]; decide⟩
  · cases h; obtain ⟨i, h1, h2⟩ := info_three info6; exact ⟨_, _, i, Try.underlying7, rfl, rfl, h1, by rw [h2]; decide⟩
  · cases h; obtain ⟨i, h1, h2⟩ := info_three info2; exact ⟨_, _, i, Try.underlying8, rfl, rfl, h1, by rw [h2]; decide⟩
  · cases h; obtain ⟨i, h1, h2⟩ := info_three info3; exact ⟨_, _, i, Try.underlying8, rfl, rfl, h1, by rw [h2]; decide⟩
  · cases h; obtain ⟨i, h1, h2⟩ := info_three info4; exact ⟨_, _, i, Try.underlying8, rfl, rfl, h1, by rw [h2]; decide⟩
  · cases h; obtain ⟨i, h1, h2⟩ := info_three info6; exact ⟨_, _, i, Try.underlying8, rfl, rfl, h1, by rw [h2]; decide⟩
  · cases h; obtain ⟨i, h1, h2⟩ := info_three info9; exact ⟨_, _, i, Try.underlying13, rfl, rfl, h1, by rw [h2]; decide⟩
  · cases h; obtain ⟨i, h1, h2⟩ := info_three info12; exact ⟨_, _, i, Try.underlying13, rfl, rfl, h1, by rw [h2]; decide⟩
  · cases h; obtain ⟨i, h1, h2⟩ := info_three info9; exact ⟨_, _, i, Try.underlying14, rfl, rfl, h1, by rw [h2]; decide⟩
  · cases h; obtain ⟨i, h1, h2⟩ := info_three info12; exact ⟨_, _, i, Try.underlying14, rfl, rfl, h1, by rw [h2]; decide⟩
  · cases h; obtain ⟨i, h1, h2⟩ := info_three info17; exact ⟨_, _, i, Try.underlying18, rfl, rfl, h1, by rw [h2]; decide⟩
  · cases h; obtain ⟨i, h1, h2⟩ := info_three info17; exact ⟨_, _, i, Try.underlying19, rfl, rfl, h1, by rw [h2]; decide⟩
  · cases h; obtain ⟨i, h1, h2⟩ := info_three info2; exact ⟨_, _, i, Try.underlying23, rfl, rfl, h1, by rw [h2]; decide⟩
  · cases h; obtain ⟨i, h1, h2⟩ := info_three info2; exact ⟨_, _, i, Try.underlying23, rfl, rfl, h1, by rw [h2]; decide⟩
  · cases h; obtain ⟨i, h1, h2⟩ := info_three info2; exact ⟨_, _, i, Try.underlying24, rfl, rfl, h1, by rw [h2]; decide⟩
  · cases h; obtain ⟨i, h1, h2⟩ := info_three info2; exact ⟨_, _, i, Try.underlying24, rfl, rfl, h1, by rw [h2]; decide⟩
  · cases h; obtain ⟨i, h1, h2⟩ := info_three info2; exact ⟨_, _, i, Try.underlying26, rfl, rfl, h1, by rw [h2]; decide⟩
  · cases h; obtain ⟨i, h1, h2⟩ := info_three info2; exact ⟨_, _, i, Try.underlying26, rfl, rfl, h1, by rw [h2]; decide⟩
  · cases h; obtain ⟨i, h1, h2⟩ := info_three info48; exact ⟨_, _, i, Try.underlying90, rfl, rfl, h1, by rw [h2]; decide⟩
  · cases h; obtain ⟨i, h1, h2⟩ := info_three info3; exact ⟨_, _, i, Try.underlying90, rfl, rfl, h1, by rw [h2]; decide⟩
  · cases h; obtain ⟨i, h1, h2⟩ := info_three info89; exact ⟨_, _, i, Try.underlying90, rfl, rfl, h1, by rw [h2]; decide⟩
  · cases h; obtain ⟨i, h1, h2⟩ := info_three info48; exact ⟨_, _, i, Try.underlying91, rfl, rfl, h1, by rw [h2]; decide⟩
  · cases h; obtain ⟨i, h1, h2⟩ := info_three info3; exact ⟨_, _, i, Try.underlying91, rfl, rfl, h1, by rw [h2]; decide⟩
  · cases h; obtain ⟨i, h1, h2⟩ := info_three info89; exact ⟨_, _, i, Try.underlying91, rfl, rfl, h1, by rw [h2]; decide⟩
  · cases h; obtain ⟨i, h1, h2⟩ := info_three info17; exact ⟨_, _, i, Try.underlying125, rfl, rfl, h1, by rw [h2]; decide⟩
  · cases h; obtain ⟨i, h1, h2⟩ := info_three info17; exact ⟨_, _, i, Try.underlying125, rfl, rfl, h1, by rw [h2]; decide⟩
  · cases h; obtain ⟨i, h1, h2⟩ := info_three info17; exact ⟨_, _, i, Try.underlying125, rfl, rfl, h1, by rw [h2]; decide⟩
  · cases h; obtain ⟨i, h1, h2⟩ := info_three info9; exact ⟨_, _, i, Try.underlying125, rfl, rfl, h1, by rw [h2]; decide⟩
  · cases h; obtain ⟨i, h1, h2⟩ := info_three info17; exact ⟨_, _, i, Try.underlying126, rfl, rfl, h1, by rw [h2]; decide⟩
  · cases h; obtain ⟨i, h1, h2⟩ := info_three info17; exact ⟨_, _, i, Try.underlying126, rfl, rfl, h1, by rw [h2]; decide⟩
  · cases h; obtain ⟨i, h1, h2⟩ := info_three info17; exact ⟨_, _, i, Try.underlying126, rfl, rfl, h1, by rw [h2]; decide⟩
  · cases h; obtain ⟨i, h1, h2⟩ := info_three info9; exact ⟨_, _, i, Try.underlying126, rfl, rfl, h1, by rw [h2]; decide⟩
  · cases h; obtain ⟨i, h1, h2⟩ := info_three info12; exact ⟨_, _, i, Try.underlying137, rfl, rfl, h1, by rw [h2]; decide⟩
  · cases h; obtain ⟨i, h1, h2⟩ := info_three info12; exact ⟨_, _, i, Try.underlying137, rfl, rfl, h1, by rw [h2]; decide⟩
  · cases h; obtain ⟨i, h1, h2⟩ := info_three info112; exact ⟨_, _, i, Try.underlying137, rfl, rfl, h1, by rw [h2]; decide⟩
  · cases h; obtain ⟨i, h1, h2⟩ := info_three info131; exact ⟨_, _, i, Try.underlying137, rfl, rfl, h1, by rw [h2]; decide⟩
  · cases h; obtain ⟨i, h1, h2⟩ := info_three info5; exact ⟨_, _, i, Try.underlying137, rfl, rfl, h1, by rw [h2]; decide⟩
  · cases h; obtain ⟨i, h1, h2⟩ := info_three info5; exact ⟨_, _, i, Try.underlying137, rfl, rfl, h1, by rw [h2]; decide⟩
  · cases h; obtain ⟨i, h1, h2⟩ := info_three info132; exact ⟨_, _, i, Try.underlying137, rfl, rfl, h1, by rw [h2]; decide⟩
  · cases h; obtain ⟨i, h1, h2⟩ := info_three info133; exact ⟨_, _, i, Try.underlying137, rfl, rfl, h1, by rw [h2]; decide⟩
  · cases h; obtain ⟨i, h1, h2⟩ := info_three info134; exact ⟨_, _, i, Try.underlying137, rfl, rfl, h1, by rw [h2]; decide⟩
  · cases h; obtain ⟨i, h1, h2⟩ := info_three info135; exact ⟨_, _, i, Try.underlying137, rfl, rfl, h1, by rw [h2]; decide⟩
  · cases h; obtain ⟨i, h1, h2⟩ := info_three info136; exact ⟨_, _, i, Try.underlying137, rfl, rfl, h1, by rw [h2]; decide⟩
  · cases h; obtain ⟨i, h1, h2⟩ := info_three info12; exact ⟨_, _, i, Try.underlying138, rfl, rfl, h1, by rw [h2]; decide⟩
  · cases h; obtain ⟨i, h1, h2⟩ := info_three info12; exact ⟨_, _, i, Try.underlying138, rfl, rfl, h1, by rw [h2]; decide⟩
  · cases h; obtain ⟨i, h1, h2⟩ := info_three info112; exact ⟨_, _, i, Try.underlying138, rfl, rfl, h1, by rw [h2]; decide⟩
  · cases h; obtain ⟨i, h1, h2⟩ := info_three info131; exact ⟨_, _, i, Try.underlying138, rfl, rfl, h1, by rw [h2]; decide⟩
  · cases h; obtain ⟨i, h1, h2⟩ := info_three info5; exact ⟨_, _, i, Try.underlying138, rfl, rfl, h1, by rw [h2]; decide⟩
  · cases h; obtain ⟨i, h1, h2⟩ := info_three info5; exact ⟨_, _, i, Try.underlying138, rfl, rfl, h1, by rw [h2]; decide⟩
  · cases h; obtain ⟨i, h1, h2⟩ := info_three info132; exact ⟨_, _, i, Try.underlying138, rfl, rfl, h1, by rw [h2]; decide⟩
  · cases h; obtain ⟨i, h1, h2⟩ := info_three info133; exact ⟨_, _, i, Try.underlying138, rfl, rfl, h1, by rw [h2]; decide⟩
  · cases h; obtain ⟨i, h1, h2⟩ := info_three info134; exact ⟨_, _, i, Try.underlying138, rfl, rfl, h1, by rw [h2]; decide⟩
  · cases h; obtain ⟨i, h1, h2⟩ := info_three info135; exact ⟨_, _, i, Try.underlying138, rfl, rfl, h1, by rw [h2]; decide⟩
  · cases h; obtain ⟨i, h1, h2⟩ := info_three info136; exact ⟨_, _, i, Try.underlying138, rfl, rfl, h1, by rw [h2]; decide⟩
  · cases h

theorem env_zero : ∀ t cs, eZero t = some cs → ∃ i z, Try.prog.info? t = some i ∧ i.zero = some z ∧ z.cells.toList = cs := by
  intro t cs h
  unfold eZero at h
  split at h
  · cases h; obtain ⟨i, h1, h2, _⟩ := info_parts info1; exact ⟨i, _, h1, h2, rfl⟩
  · cases h; obtain ⟨i, h1, h2, _⟩ := info_parts info2; exact ⟨i, _, h1, h2, rfl⟩
  · cases h; obtain ⟨i, h1, h2, _⟩ := info_parts info3; exact ⟨i, _, h1, h2, rfl⟩
  · cases h; obtain ⟨i, h1, h2, _⟩ := info_parts info4; exact ⟨i, _, h1, h2, rfl⟩
  · cases h; obtain ⟨i, h1, h2, _⟩ := info_parts info5; exact ⟨i, _, h1, h2, rfl⟩
  · cases h; obtain ⟨i, h1, h2, _⟩ := info_parts info6; exact ⟨i, _, h1, h2, rfl⟩
  · cases h; obtain ⟨i, h1, h2, _⟩ := info_parts info7; exact ⟨i, _, h1, h2, rfl⟩
  · cases h; obtain ⟨i, h1, h2, _⟩ := info_parts info8; exact ⟨i, _, h1, h2, rfl⟩
  · cases h; obtain ⟨i, h1, h2, _⟩ := info_parts info9; exact ⟨i, _, h1, h2, rfl⟩
  · cases h; obtain ⟨i, h1, h2, _⟩ := info_parts info10; exact ⟨i, _, h1, h2, rfl⟩
  · cases h; obtain ⟨i, h1, h2, _⟩ := info_parts info11; exact ⟨i, _, h1, h2, rfl⟩
  · cases h; obtain ⟨i, h1, h2, _⟩ := info_parts info12; exact ⟨i, _, h1, h2, rfl⟩
  · cases h; obtain ⟨i, h1, h2, _⟩ := info_parts info13; exact ⟨i, _, h1, h2, rfl⟩
  · cases h; obtain ⟨i, h1, h2, _⟩ := info_parts info14; exact ⟨i, _, h1, h2, rfl⟩
  · cases h; obtain ⟨i, h1, h2, _⟩ := info_parts info15; exact ⟨i, _, h1, h2, rfl⟩
  · cases h; obtain ⟨i, h1, h2, _⟩ := info_parts info16; exact ⟨i, _, h1, h2, rfl⟩
  · cases h; obtain ⟨i, h1, h2, _⟩ := info_parts info17; exact ⟨i, _, h1, h2, rfl⟩
  · cases h; obtain ⟨i, h1, h2, _⟩ := info_parts info18; exact ⟨i, _, h1, h2, rfl⟩
  · cases h; obtain ⟨i, h1, h2, _⟩ := info_parts info19; exact ⟨i, _, h1, h2, rfl⟩
  · cases h; obtain ⟨i, h1, h2, _⟩ := info_parts info21; exact ⟨i, _, h1, h2, rfl⟩
  · cases h; obtain ⟨i, h1, h2, _⟩ := info_parts info22; exact ⟨i, _, h1, h2, rfl⟩
  · cases h; obtain ⟨i, h1, h2, _⟩ := info_parts info23; exact ⟨i, _, h1, h2, rfl⟩
  · cases h; obtain ⟨i, h1, h2, _⟩ := info_parts info24; exact ⟨i, _, h1, h2, rfl⟩
  · cases h; obtain ⟨i, h1, h2, _⟩ := info_parts info25; exact ⟨i, _, h1, h2, rfl⟩
  · cases h; obtain ⟨i, h1, h2, _⟩ := info_parts info26; exact ⟨i, _, h1, h2, rfl⟩
  · cases h; obtain ⟨i, h1, h2, _⟩ := info_parts info27; exact ⟨i, _, h1, h2, rfl⟩
  · cases h; obtain ⟨i, h1, h2, _⟩ := info_parts info28; exact ⟨i, _, h1, h2, rfl⟩
  · cases h; obtain ⟨i, h1, h2, _⟩ := info_parts info29; exact ⟨i, _, h1, h2, rfl⟩
  · cases h; obtain ⟨i, h1, h2, _⟩ := info_parts info31; exact ⟨i, _, h1, h2, rfl⟩
  · cases h; obtain ⟨i, h1, h2, _⟩ := info_parts info32; exact ⟨i, _, h1, h2, rfl⟩
  · cases h; obtain ⟨i, h1, h2, _⟩ := info_parts info33; exact ⟨i, _, h1, h2, rfl⟩
  · cases h; obtain ⟨i, h1, h2, _⟩ := info_parts info34; exact ⟨i, _, h1, h2, rfl⟩
  · cases h; obtain ⟨i, h1, h2, _⟩ := info_parts info35; exact ⟨i, _, h1, h2, rfl⟩
  · cases h; obtain ⟨i, h1, h2, _⟩ := info_parts info37; exact ⟨i, _, h1, h2, rfl⟩
  · cases h; obtain ⟨i, h1, h2, _⟩ := info_parts info38; exact ⟨i, _, h1, h2, rfl⟩
  · cases h; obtain ⟨i, h1, h2, _⟩ := info_parts info39; exact ⟨i, _, h1, h2, rfl⟩
  · cases h; obtain ⟨i, h1, h2, _⟩ := info_parts info40; exact ⟨i, _, h1, h2, rfl⟩
  · cases h; obtain ⟨i, h1, h2, _⟩ := info_parts info41; exact ⟨i, _, h1, h2, rfl⟩
  · cases h; obtain ⟨i, h1, h2, _⟩ := info_parts info42; exact ⟨i, _, h1, h2, rfl⟩
  · cases h; obtain ⟨i, h1, h2, _⟩ := info_parts info43; exact ⟨i, _, h1, h2, rfl⟩
  · cases h; obtain ⟨i, h1, h2, _⟩ := info_parts info44; exact ⟨i, _, h1, h2, rfl⟩
  · cases h; obtain ⟨i, h1, h2, _⟩ := info_parts info45; exact ⟨i, _, h1, h2, rfl⟩
  · cases h; obtain ⟨i, h1, h2, _⟩ := info_parts info46; exact ⟨i, _, h1, h2, rfl⟩
  · cases h; obtain ⟨i, h1, h2, _⟩ := info_parts info47; exact ⟨i, _, h1, h2, rfl⟩
  · cases h; obtain ⟨i, h1, h2, _⟩ := info_parts info48; exact ⟨i, _, h1, h2, rfl⟩
  · cases h; obtain ⟨i, h1, h2, _⟩ := info_parts info49; exact ⟨i, _, h1, h2, rfl⟩
  · cases h; obtain ⟨i, h1, h2, _⟩ := info_parts info50; exact ⟨i, _, h1, h2, rfl⟩
  · cases h; obtain ⟨i, h1, h2, _⟩ := info_parts info51; exact ⟨i, _, h1, h2, rfl⟩
  · cases h; obtain ⟨i, h1, h2, _⟩ := info_parts info53; exact ⟨i, _, h1, h2, rfl⟩
  · cases h; obtain ⟨i, h1, h2, _⟩ := info_parts info54; exact ⟨i, _, h1, h2, rfl⟩
  · cases h; obtain ⟨i, h1, h2, _⟩ := info_parts info55; exact ⟨i, _, h1, h2, rfl⟩
  · cases h; obtain ⟨i, h1, h2, _⟩ := info_parts info57; exact ⟨i, _, h1, h2, rfl⟩
  · cases h; obtain ⟨i, h1, h2, _⟩ := info_parts info58; exact ⟨i, _, h1, h2, rfl⟩
  · cases h; obtain ⟨i, h1, h2, _⟩ := info_parts info60; exact ⟨i, _, h1, h2, rfl⟩
  · cases h; obtain ⟨i, h1, h2, _⟩ := info_parts info61; exact ⟨i, _, h1, h2, rfl⟩
  · cases h; obtain ⟨i, h1, h2, _⟩ := info_parts info62; exact ⟨i, _, h1, h2, rfl⟩
  · cases h; obtain ⟨i, h1, h2, _⟩ := info_parts info63; exact ⟨i, _, h1, h2, rfl⟩
  · cases h; obtain ⟨i, h1, h2, _⟩ := info_parts info64; exact ⟨i, _, h1, h2, rfl⟩
  · cases h; obtain ⟨i, h1, h2, _⟩ := info_parts info65; exact ⟨i, _, h1, h2, rfl⟩
  · cases h; obtain ⟨i, h1, h2, _⟩ := info_parts info66; exact ⟨i, _, h1, h2, rfl⟩
  · cases h; obtain ⟨i, h1, h2, _⟩ := info_parts info67; exact ⟨i, _, h1, h2, rfl⟩
  · cases h; obtain ⟨i, h1, h2, _⟩ := info_parts info68; exact ⟨i, _, h1, h2, rfl⟩
  · cases h; obtain ⟨i, h1, h2, _⟩ := info_parts info69; exact ⟨i, _, h1, h2, rfl⟩
  · cases h; obtain ⟨i, h1, h2, _⟩ := info_parts info70; exact ⟨i, _, h1, h2, rfl⟩
  · cases h; obtain ⟨i, h1, h2, _⟩ := info_parts info71; exact ⟨i, _, h1, h2, rfl⟩
  · cases h; obtain ⟨i, h1, h2, _⟩ := info_parts info72; exact ⟨i, _, h1, h2, rfl⟩
  · cases h; obtain ⟨i, h1, h2, _⟩ := info_parts info73; exact ⟨i, _, h1, h2, rfl⟩
  · cases h; obtain ⟨i, h1, h2, _⟩ := info_parts info75; exact ⟨i, _, h1, h2, rfl⟩
  · cases h; obtain ⟨i, h1, h2, _⟩ := info_parts info76; exact ⟨i, _, h1, h2, rfl⟩
  · cases h; obtain ⟨i, h1, h2, _⟩ := info_parts info77; exact ⟨i, _, h1, h2, rfl⟩
  · cases h; obtain ⟨i, h1, h2, _⟩ := info_parts info79; exact ⟨i, _, h1, h2, rfl⟩
  · cases h; obtain ⟨i, h1, h2, _⟩ := info_parts info80; exact ⟨i, _, h1, h2, rfl⟩
  · cases h; obtain ⟨i, h1, h2, _⟩ := info_parts info81; exact ⟨i, _, h1, h2, rfl⟩
  · cases h; obtain ⟨i, h1, h2, _⟩ := info_parts info82; exact ⟨i, _, h1, h2, rfl⟩
  · cases h; obtain ⟨i, h1, h2, _⟩ := info_parts info83; exact ⟨i, _, h1, h2, rfl⟩
  · cases h; obtain ⟨i, h1, h2, _⟩ := info_parts info84; exact ⟨i, _, h1, h2, rfl⟩
  · cases h; obtain ⟨i, h1, h2, _⟩ := info_parts info85; exact ⟨i, _, h1, h2, rfl⟩
  · cases h; obtain ⟨i, h1, h2, _⟩ := info_parts info86; exact ⟨i, _, h1, h2, rfl⟩
  · cases h; obtain ⟨i, h1, h2, _⟩ := info_parts info87; exact ⟨i, _, h1, h2, rfl⟩
  · cases h; obtain ⟨i, h1, h2, _⟩ := info_parts info88; exact ⟨i, _, h1, h2, rfl⟩
  · cases h; obtain ⟨i, h1, h2, _⟩ := info_parts info89; exact ⟨i, _, h1, h2, rfl⟩
  · cases h; obtain ⟨i, h1, h2, _⟩ := info_parts info90; exact ⟨i, _, h1, h2, rfl⟩
  · cases h; obtain ⟨i, h1, h2, _⟩ := info_parts info91; exact ⟨i, _, h1, h2, rfl⟩
  · cases h; obtain ⟨i, h1, h2, _⟩ := info_parts info92; exact ⟨i, _, h1, h2, rfl⟩
  · cases h; obtain ⟨i, h1, h2, _⟩ := info_parts info93; exact ⟨i, _, h1, h2, rfl⟩
  · cases h; obtain ⟨i, h1, h2, _⟩ := info_parts info94; exact ⟨i, _, h1, h2, rfl⟩
  · cases h; obtain ⟨i, h1, h2, _⟩ := info_parts info95; exact ⟨i, _, h1, h2, rfl⟩
  · cases h; obtain ⟨i, h1, h2, _⟩ := info_parts info96; exact ⟨i, _, h1, h2, rfl⟩
  · cases h; obtain ⟨i, h1, h2, _⟩ := info_parts info97; exact ⟨i, _, h1, h2, rfl⟩
  · cases h; obtain ⟨i, h1, h2, _⟩ := info_parts info98; exact ⟨i, _, h1, h2, rfl⟩
  · cases h; obtain ⟨i, h1, h2, _⟩ := info_parts info99; exact ⟨i, _, h1, h2, rfl⟩
  · cases h; obtain ⟨i, h1, h2, _⟩ := info_parts info100; exact ⟨i, _, h1, h2, rfl⟩
  · cases h; obtain ⟨i, h1, h2, _⟩ := info_parts info101; exact ⟨i, _, h1, h2, rfl⟩
  · cases h; obtain ⟨i, h1, h2, _⟩ := info_parts info102; exact ⟨i, _, h1, h2, rfl⟩
  · cases h; obtain ⟨i, h1, h2, _⟩ := info_parts info103; exact ⟨i, _, h1, h2, rfl⟩
  · cases h; obtain ⟨i, h1, h2, _⟩ := info_parts info104; exact ⟨i, _, h1, h2, rfl⟩
  · cases h; obtain ⟨i, h1, h2, _⟩ := info_parts info106; exact ⟨i, _, h1, h2, rfl⟩
  · cases h; obtain ⟨i, h1, h2, _⟩ := info_parts info107; exact ⟨i, _, h1, h2, rfl⟩
  · cases h; obtain ⟨i, h1, h2, _⟩ := info_parts info108; exact ⟨i, _, h1, h2, rfl⟩
  · cases h; obtain ⟨i, h1, h2, _⟩ := info_parts info110; exact ⟨i, _, h1, h2, rfl⟩
  · cases h; obtain ⟨i, h1, h2, _⟩ := info_parts info111; exact ⟨i, _, h1, h2, rfl⟩
  · cases h; obtain ⟨i, h1, h2, _⟩ := info_parts info112; exact ⟨i, _, h1, h2, rfl⟩
  · cases h; obtain ⟨i, h1, h2, _⟩ := info_parts info113; exact ⟨i, _, h1, h2, rfl⟩
  · cases h; obtain ⟨i, h1, h2, _⟩ := info_parts info114; exact ⟨i, _, h1, h2, rfl⟩
  · cases h; obtain ⟨i, h1, h2, _⟩ := info_parts info115; exact ⟨i, _, h1, h2, rfl⟩
  · cases h; obtain ⟨i, h1, h2, _⟩ := info_parts info116; exact ⟨i, _, h1, h2, rfl⟩
  · cases h; obtain ⟨i, h1, h2, _⟩ := info_parts info117; exact ⟨i, _, h1, h2, rfl⟩
  · cases h; obtain ⟨i, h1, h2, _⟩ := info_parts info118; exact ⟨i, _, h1, h2, rfl⟩
  · cases h; obtain ⟨i, h1, h2, _⟩ := info_parts info119; exact ⟨i, _, h1, h2, rfl⟩
  · cases h; obtain ⟨i, h1, h2, _⟩ := info_parts info120; exact ⟨i, _, h1, h2, rfl⟩
  · cases h; obtain ⟨i, h1, h2, _⟩ := info_parts info121; exact ⟨i, _, h1, h2, rfl⟩
  · cases h; obtain ⟨i, h1, h2, _⟩ := info_parts info123; exact ⟨i, _, h1, h2, rfl⟩
  · cases h; obtain ⟨i, h1, h2, _⟩ := info_parts info124; exact ⟨i, _, h1, h2, rfl⟩
  · cases h; obtain ⟨i, h1, h2, _⟩ := info_parts info125; exact ⟨i, _, h1, h2, rfl⟩
  · cases h; obtain ⟨i, h1, h2, _⟩ := info_parts info126; exact ⟨i, _, h1, h2, rfl⟩
  · cases h; obtain ⟨i, h1, h2, _⟩ := info_parts info130; exact ⟨i, _, h1, h2, rfl⟩
  · cases h; obtain ⟨i, h1, h2, _⟩ := info_parts info131; exact ⟨i, _, h1, h2, rfl⟩
  · cases h; obtain ⟨i, h1, h2, _⟩ := info_parts info132; exact ⟨i, _, h1, h2, rfl⟩
  · cases h; obtain ⟨i, h1, h2, _⟩ := info_parts info133; exact ⟨i, _, h1, h2, rfl⟩
  · cases h; obtain ⟨i, h1, h2, _⟩ := info_parts info134; exact ⟨i, _, h1, h2, rfl⟩
  · cases h; obtain ⟨i, h1, h2, _⟩ := info_parts info135; exact ⟨i, _, h1, h2, rfl⟩
  · cases h; obtain ⟨i, h1, h2, _⟩ := info_parts info136; exact ⟨i, _, h1, h2, rfl⟩
  · cases h; obtain ⟨i, h1, h2, _⟩ := info_parts info137; exact ⟨i, _, h1, h2, rfl⟩
  · cases h; obtain ⟨i, h1, h2, _⟩ := info_parts info138; exact ⟨i, _, h1, h2, rfl⟩
  · cases h

theorem env_knd : ∀ t d, eKnd t = some d → Try.prog.underlying t = some d := by
  intro t d h
  unfold eKnd at h
  split at h
  · cases h; exact Try.underlying2
  · cases h; exact Try.underlying3
  · cases h; exact Try.underlying4
  · cases h; exact Try.underlying5
  · cases h; exact Try.underlying6
  · cases h; exact Try.underlying9
  · cases h; exact Try.underlying10
  · cases h; exact Try.underlying11
  · cases h; exact Try.underlying12
  · cases h; exact Try.underlying21
  · cases h; exact Try.underlying89
  · cases h; exact Try.underlying98
  · cases h; exact Try.underlying104
  · cases h; exact Try.underlying112
  · cases h; exact Try.underlying115
  · cases h; exact Try.underlying131
  · cases h; exact Try.underlying132
  · cases h; exact Try.underlying135
  · cases h; exact Try.underlying136
  · cases h

theorem env_bld : ∀ t l, eBld t = some l → ∀ parts w, ∃ i z fs, Try.prog.info? t = some i ∧ i.zero = some z ∧ Try.prog.underlying t = some (.struct fs) ∧
    (Instr.build t parts).run Try.prog w = match Instr.fill (fun k => l[k]?) z.cells parts.toList with | some cells => .ok (.agg cells) w | none => .halt (.stuck "build: no such field, or a part of the wrong size") w := by
  intro t l h parts w
  unfold eBld at h
  split at h
  · cases h; obtain ⟨i, h1, h2, _⟩ := info_parts info7; exact ⟨i, _, _, h1, h2, Try.underlying7, build_run h1 h2 Try.underlying7 (fun w => by kernel_rfl) w⟩
  · cases h; obtain ⟨i, h1, h2, _⟩ := info_parts info8; exact ⟨i, _, _, h1, h2, Try.underlying8, build_run h1 h2 Try.underlying8 (fun w => by kernel_rfl) w⟩
  · cases h; obtain ⟨i, h1, h2, _⟩ := info_parts info13; exact ⟨i, _, _, h1, h2, Try.underlying13, build_run h1 h2 Try.underlying13 (fun w => by kernel_rfl) w⟩
  · cases h; obtain ⟨i, h1, h2, _⟩ := info_parts info14; exact ⟨i, _, _, h1, h2, Try.underlying14, build_run h1 h2 Try.underlying14 (fun w => by kernel_rfl) w⟩
  · cases h; obtain ⟨i, h1, h2, _⟩ := info_parts info18; exact ⟨i, _, _, h1, h2, Try.underlying18, build_run h1 h2 Try.underlying18 (fun w => by kernel_rfl) w⟩
  · cases h; obtain ⟨i, h1, h2, _⟩ := info_parts info19; exact ⟨i, _, _, h1, h2, Try.underlying19, build_run h1 h2 Try.underlying19 (fun w => by kernel_rfl) w⟩
  · cases h; obtain ⟨i, h1, h2, _⟩ := info_parts info23; exact ⟨i, _, _, h1, h2, Try.underlying23, build_run h1 h2 Try.underlying23 (fun w => by kernel_rfl) w⟩
  · cases h; obtain ⟨i, h1, h2, _⟩ := info_parts info24; exact ⟨i, _, _, h1, h2, Try.underlying24, build_run h1 h2 Try.underlying24 (fun w => by kernel_rfl) w⟩
  · cases h; obtain ⟨i, h1, h2, _⟩ := info_parts info26; exact ⟨i, _, _, h1, h2, Try.underlying26, build_run h1 h2 Try.underlying26 (fun w => by kernel_rfl) w⟩
  · cases h; obtain ⟨i, h1, h2, _⟩ := info_parts info90; exact ⟨i, _, _, h1, h2, Try.underlying90, build_run h1 h2 Try.underlying90 (fun w => by kernel_rfl) w⟩
  · cases h; obtain ⟨i, h1, h2, _⟩ := info_parts info91; exact ⟨i, _, _, h1, h2, Try.underlying91, build_run h1 h2 Try.underlying91 (fun w => by kernel_rfl) w⟩
  · cases h; obtain ⟨i, h1, h2, _⟩ := info_parts info125; exact ⟨i, _, _, h1, h2, Try.underlying125, build_run h1 h2 Try.underlying125 (fun w => by kernel_rfl) w⟩
  · cases h; obtain ⟨i, h1, h2, _⟩ := info_parts info126; exact ⟨i, _, _, h1, h2, Try.underlying126, build_run h1 h2 Try.underlying126 (fun w => by kernel_rfl) w⟩
  · cases h; obtain ⟨i, h1, h2, _⟩ := info_parts info137; exact ⟨i, _, _, h1, h2, Try.underlying137, build_run h1 h2 Try.underlying137 (fun w => by kernel_rfl) w⟩
  · cases h; obtain ⟨i, h1, h2, _⟩ := info_parts info138; exact ⟨i, _, _, h1, h2, Try.underlying138, build_run h1 h2 Try.underlying138 (fun w => by kernel_rfl) w⟩
  · cases h

theorem env_pts : ∀ t, ePts t = true → ∀ (a b c d : Int) w, (Op.equal t (.agg #[.int .i64 a, .int .i64 b]) (.agg #[.int .i64 c, .int .i64 d])).run Try.prog w = .ok (decide (a = c ∧ b = d)) w ∧
    ∀ x y op, (eqGuard op t x y (.agg #[.int .i64 a, .int .i64 b]) (.agg #[.int .i64 c, .int .i64 d])).run Try.prog w = .ok () w := by
  intro t h a b c d w
  unfold ePts at h
  split at h
  · exact pts_run Try.underlying23 ⟨rfl, by decide, Try.underlying2⟩ ⟨rfl, by decide, Try.underlying2⟩ (by kernel_rfl) (by kernel_rfl) a b c d w
  · exact pts_run Try.underlying24 ⟨rfl, by decide, Try.underlying2⟩ ⟨rfl, by decide, Try.underlying2⟩ (by kernel_rfl) (by kernel_rfl) a b c d w
  · exact pts_run Try.underlying26 ⟨rfl, by decide, Try.underlying2⟩ ⟨rfl, by decide, Try.underlying2⟩ (by kernel_rfl) (by kernel_rfl) a b c d w
  · cases h

theorem mixed : Try.prog.follows .mixedOrders = true := by kernel_rfl
theorem envOk : EnvOk Try.prog env := ⟨env_sl, env_var, env_fld, env_zero, env_knd, env_bld, env_pts⟩
theorem vsl_33 : env.sl 33 = some (.int .i64) := rfl
theorem vsl_40 : env.sl 40 = some (.pt) := rfl
theorem vsl_43 : env.sl 43 = some (.pt) := rfl
theorem vsl_48 : env.sl 48 = some (.int .u8) := rfl
theorem vsl_114 : env.sl 114 = some (.int .i64) := rfl
theorem vkn_33 : env.knd 33 = none := rfl
theorem vkn_40 : env.knd 40 = none := rfl
theorem vkn_43 : env.knd 43 = none := rfl
theorem vkn_48 : env.knd 48 = none := rfl
theorem vkn_114 : env.knd 114 = none := rfl
theorem vvar_1 : env.var 1 = some (false, 1) := rfl
theorem vvar_2 : env.var 2 = some (false, 1) := rfl
theorem vvar_3 : env.var 3 = some (false, 1) := rfl
theorem vvar_4 : env.var 4 = some (false, 1) := rfl
theorem vvar_5 : env.var 5 = some (false, 1) := rfl
theorem vvar_6 : env.var 6 = some (false, 1) := rfl
theorem vvar_7 : env.var 7 = some (true, 4) := rfl
theorem vvar_8 : env.var 8 = some (true, 4) := rfl
theorem vvar_9 : env.var 9 = some (false, 1) := rfl
theorem vvar_10 : env.var 10 = some (false, 1) := rfl
theorem vvar_11 : env.var 11 = some (false, 1) := rfl
theorem vvar_12 : env.var 12 = some (false, 1) := rfl
theorem vvar_13 : env.var 13 = some (true, 2) := rfl
theorem vvar_14 : env.var 14 = some (true, 2) := rfl
theorem vvar_15 : env.var 15 = some (false, 1) := rfl
theorem vvar_16 : env.var 16 = some (false, 1) := rfl
theorem vvar_17 : env.var 17 = some (false, 1) := rfl
theorem vvar_18 : env.var 18 = some (true, 1) := rfl
theorem vvar_19 : env.var 19 = some (true, 1) := rfl
theorem vvar_21 : env.var 21 = some (false, 1) := rfl
theorem vvar_22 : env.var 22 = some (false, 1) := rfl
theorem vvar_23 : env.var 23 = some (true, 2) := rfl
theorem vvar_24 : env.var 24 = some (true, 2) := rfl
theorem vvar_25 : env.var 25 = some (false, 1) := rfl
theorem vvar_26 : env.var 26 = some (true, 2) := rfl
theorem vvar_27 : env.var 27 = some (false, 1) := rfl
theorem vvar_28 : env.var 28 = some (false, 1) := rfl
theorem vvar_29 : env.var 29 = some (false, 1) := rfl
theorem vvar_31 : env.var 31 = some (false, 1) := rfl
theorem vvar_32 : env.var 32 = some (false, 1) := rfl
theorem vvar_33 : env.var 33 = some (false, 1) := rfl
theorem vvar_34 : env.var 34 = some (false, 1) := rfl
theorem vvar_35 : env.var 35 = some (false, 1) := rfl
theorem vvar_37 : env.var 37 = some (false, 1) := rfl
theorem vvar_38 : env.var 38 = some (false, 1) := rfl
theorem vvar_39 : env.var 39 = some (false, 1) := rfl
theorem vvar_40 : env.var 40 = some (false, 1) := rfl
theorem vvar_41 : env.var 41 = some (false, 1) := rfl
theorem vvar_42 : env.var 42 = some (false, 1) := rfl
theorem vvar_43 : env.var 43 = some (false, 1) := rfl
theorem vvar_44 : env.var 44 = some (false, 1) := rfl
theorem vvar_45 : env.var 45 = some (false, 1) := rfl
theorem vvar_46 : env.var 46 = some (false, 1) := rfl
theorem vvar_47 : env.var 47 = some (false, 1) := rfl
theorem vvar_48 : env.var 48 = some (false, 1) := rfl
theorem vvar_49 : env.var 49 = some (false, 1) := rfl
theorem vvar_50 : env.var 50 = some (false, 1) := rfl
theorem vvar_51 : env.var 51 = some (false, 1) := rfl
theorem vvar_53 : env.var 53 = some (false, 1) := rfl
theorem vvar_54 : env.var 54 = some (false, 1) := rfl
theorem vvar_55 : env.var 55 = some (false, 1) := rfl
theorem vvar_57 : env.var 57 = some (false, 1) := rfl
theorem vvar_58 : env.var 58 = some (false, 1) := rfl
theorem vvar_60 : env.var 60 = some (false, 1) := rfl
theorem vvar_61 : env.var 61 = some (false, 1) := rfl
theorem vvar_62 : env.var 62 = some (false, 1) := rfl
theorem vvar_63 : env.var 63 = some (false, 1) := rfl
theorem vvar_64 : env.var 64 = some (false, 1) := rfl
theorem vvar_65 : env.var 65 = some (false, 1) := rfl
theorem vvar_66 : env.var 66 = some (false, 1) := rfl
theorem vvar_67 : env.var 67 = some (false, 1) := rfl
theorem vvar_68 : env.var 68 = some (false, 1) := rfl
theorem vvar_69 : env.var 69 = some (false, 1) := rfl
theorem vvar_70 : env.var 70 = some (false, 1) := rfl
theorem vvar_71 : env.var 71 = some (false, 1) := rfl
theorem vvar_72 : env.var 72 = some (false, 1) := rfl
theorem vvar_73 : env.var 73 = some (false, 1) := rfl
theorem vvar_75 : env.var 75 = some (false, 1) := rfl
theorem vvar_76 : env.var 76 = some (false, 1) := rfl
theorem vvar_77 : env.var 77 = some (false, 1) := rfl
theorem vvar_79 : env.var 79 = some (false, 1) := rfl
theorem vvar_80 : env.var 80 = some (false, 1) := rfl
theorem vvar_81 : env.var 81 = some (false, 1) := rfl
theorem vvar_82 : env.var 82 = some (false, 1) := rfl
theorem vvar_83 : env.var 83 = some (false, 1) := rfl
theorem vvar_84 : env.var 84 = some (false, 1) := rfl
theorem vvar_85 : env.var 85 = some (false, 1) := rfl
theorem vvar_86 : env.var 86 = some (false, 1) := rfl
theorem vvar_87 : env.var 87 = some (false, 1) := rfl
theorem vvar_88 : env.var 88 = some (false, 1) := rfl
theorem vvar_89 : env.var 89 = some (false, 1) := rfl
theorem vvar_90 : env.var 90 = some (true, 3) := rfl
theorem vvar_91 : env.var 91 = some (true, 3) := rfl
theorem vvar_92 : env.var 92 = some (false, 1) := rfl
theorem vvar_93 : env.var 93 = some (false, 1) := rfl
theorem vvar_94 : env.var 94 = some (false, 1) := rfl
theorem vvar_95 : env.var 95 = some (false, 1) := rfl
theorem vvar_96 : env.var 96 = some (false, 1) := rfl
theorem vvar_97 : env.var 97 = some (false, 1) := rfl
theorem vvar_98 : env.var 98 = some (false, 1) := rfl
theorem vvar_99 : env.var 99 = some (false, 1) := rfl
theorem vvar_100 : env.var 100 = some (false, 1) := rfl
theorem vvar_101 : env.var 101 = some (false, 1) := rfl
theorem vvar_102 : env.var 102 = some (false, 1) := rfl
theorem vvar_103 : env.var 103 = some (false, 1) := rfl
theorem vvar_104 : env.var 104 = some (false, 1) := rfl
theorem vvar_106 : env.var 106 = some (false, 1) := rfl
theorem vvar_107 : env.var 107 = some (false, 1) := rfl
theorem vvar_108 : env.var 108 = some (false, 1) := rfl
theorem vvar_110 : env.var 110 = some (false, 1) := rfl
theorem vvar_111 : env.var 111 = some (false, 1) := rfl
theorem vvar_112 : env.var 112 = some (false, 1) := rfl
theorem vvar_113 : env.var 113 = some (false, 1) := rfl
theorem vvar_114 : env.var 114 = some (false, 1) := rfl
theorem vvar_115 : env.var 115 = some (false, 1) := rfl
theorem vvar_116 : env.var 116 = some (false, 1) := rfl
theorem vvar_117 : env.var 117 = some (false, 1) := rfl
theorem vvar_118 : env.var 118 = some (false, 1) := rfl
theorem vvar_119 : env.var 119 = some (false, 1) := rfl
theorem vvar_120 : env.var 120 = some (false, 1) := rfl
theorem vvar_121 : env.var 121 = some (false, 1) := rfl
theorem vvar_123 : env.var 123 = some (false, 1) := rfl
theorem vvar_124 : env.var 124 = some (false, 1) := rfl
theorem vvar_125 : env.var 125 = some (true, 4) := rfl
theorem vvar_126 : env.var 126 = some (true, 4) := rfl
theorem vvar_130 : env.var 130 = some (false, 1) := rfl
theorem vvar_131 : env.var 131 = some (false, 1) := rfl
theorem vvar_132 : env.var 132 = some (false, 1) := rfl
theorem vvar_133 : env.var 133 = some (false, 1) := rfl
theorem vvar_134 : env.var 134 = some (false, 1) := rfl
theorem vvar_135 : env.var 135 = some (false, 1) := rfl
theorem vvar_136 : env.var 136 = some (false, 1) := rfl
theorem vvar_137 : env.var 137 = some (true, 11) := rfl
theorem vvar_138 : env.var 138 = some (true, 11) := rfl
theorem vfld_7_0 : env.fld 7 0 = some 0 := rfl
theorem vfld_7_1 : env.fld 7 1 = some 1 := rfl
theorem vfld_7_2 : env.fld 7 2 = some 2 := rfl
theorem vfld_7_3 : env.fld 7 3 = some 3 := rfl
theorem vfld_8_0 : env.fld 8 0 = some 0 := rfl
theorem vfld_8_1 : env.fld 8 1 = some 1 := rfl
theorem vfld_8_2 : env.fld 8 2 = some 2 := rfl
theorem vfld_8_3 : env.fld 8 3 = some 3 := rfl
theorem vfld_13_0 : env.fld 13 0 = some 0 := rfl
theorem vfld_13_1 : env.fld 13 1 = some 1 := rfl
theorem vfld_14_0 : env.fld 14 0 = some 0 := rfl
theorem vfld_14_1 : env.fld 14 1 = some 1 := rfl
theorem vfld_18_0 : env.fld 18 0 = some 0 := rfl
theorem vfld_19_0 : env.fld 19 0 = some 0 := rfl
theorem vfld_23_0 : env.fld 23 0 = some 0 := rfl
theorem vfld_23_1 : env.fld 23 1 = some 1 := rfl
theorem vfld_24_0 : env.fld 24 0 = some 0 := rfl
theorem vfld_24_1 : env.fld 24 1 = some 1 := rfl
theorem vfld_26_0 : env.fld 26 0 = some 0 := rfl
theorem vfld_26_1 : env.fld 26 1 = some 1 := rfl
theorem vfld_90_0 : env.fld 90 0 = some 0 := rfl
theorem vfld_90_1 : env.fld 90 1 = some 1 := rfl
theorem vfld_90_2 : env.fld 90 2 = some 2 := rfl
theorem vfld_91_0 : env.fld 91 0 = some 0 := rfl
theorem vfld_91_1 : env.fld 91 1 = some 1 := rfl
theorem vfld_91_2 : env.fld 91 2 = some 2 := rfl
theorem vfld_125_0 : env.fld 125 0 = some 0 := rfl
theorem vfld_125_1 : env.fld 125 1 = some 1 := rfl
theorem vfld_125_2 : env.fld 125 2 = some 2 := rfl
theorem vfld_125_3 : env.fld 125 3 = some 3 := rfl
theorem vfld_126_0 : env.fld 126 0 = some 0 := rfl
theorem vfld_126_1 : env.fld 126 1 = some 1 := rfl
theorem vfld_126_2 : env.fld 126 2 = some 2 := rfl
theorem vfld_126_3 : env.fld 126 3 = some 3 := rfl
theorem vfld_137_0 : env.fld 137 0 = some 0 := rfl
theorem vfld_137_1 : env.fld 137 1 = some 1 := rfl
theorem vfld_137_2 : env.fld 137 2 = some 2 := rfl
theorem vfld_137_3 : env.fld 137 3 = some 3 := rfl
theorem vfld_137_4 : env.fld 137 4 = some 4 := rfl
theorem vfld_137_5 : env.fld 137 5 = some 5 := rfl
theorem vfld_137_6 : env.fld 137 6 = some 6 := rfl
theorem vfld_137_7 : env.fld 137 7 = some 7 := rfl
theorem vfld_137_8 : env.fld 137 8 = some 8 := rfl
theorem vfld_137_9 : env.fld 137 9 = some 9 := rfl
theorem vfld_137_10 : env.fld 137 10 = some 10 := rfl
theorem vfld_138_0 : env.fld 138 0 = some 0 := rfl
theorem vfld_138_1 : env.fld 138 1 = some 1 := rfl
theorem vfld_138_2 : env.fld 138 2 = some 2 := rfl
theorem vfld_138_3 : env.fld 138 3 = some 3 := rfl
theorem vfld_138_4 : env.fld 138 4 = some 4 := rfl
theorem vfld_138_5 : env.fld 138 5 = some 5 := rfl
theorem vfld_138_6 : env.fld 138 6 = some 6 := rfl
theorem vfld_138_7 : env.fld 138 7 = some 7 := rfl
theorem vfld_138_8 : env.fld 138 8 = some 8 := rfl
theorem vfld_138_9 : env.fld 138 9 = some 9 := rfl
theorem vfld_138_10 : env.fld 138 10 = some 10 := rfl
theorem vzero_1 : env.zero 1 = some [.nilFunc] := rfl
theorem vzero_2 : env.zero 2 = some [.int .i64 0] := rfl
theorem vzero_3 : env.zero 3 = some [.int .i64 0] := rfl
theorem vzero_4 : env.zero 4 = some [.bool false] := rfl
theorem vzero_5 : env.zero 5 = some [.int .u8 0] := rfl
theorem vzero_6 : env.zero 6 = some [.int .u8 0] := rfl
theorem vzero_7 : env.zero 7 = some [.int .i64 0, .int .i64 0, .bool false, .int .u8 0] := rfl
theorem vzero_8 : env.zero 8 = some [.int .i64 0, .int .i64 0, .bool false, .int .u8 0] := rfl
theorem vzero_9 : env.zero 9 = some [.string ByteArray.empty] := rfl
theorem vzero_10 : env.zero 10 = some [.string ByteArray.empty] := rfl
theorem vzero_11 : env.zero 11 = some [.string ByteArray.empty] := rfl
theorem vzero_12 : env.zero 12 = some [.int .u64 0] := rfl
theorem vzero_13 : env.zero 13 = some [.string ByteArray.empty, .int .u64 0] := rfl
theorem vzero_14 : env.zero 14 = some [.string ByteArray.empty, .int .u64 0] := rfl
theorem vzero_15 : env.zero 15 = some [.pointer none] := rfl
theorem vzero_16 : env.zero 16 = some [.pointer none] := rfl
theorem vzero_17 : env.zero 17 = some [.pointer none] := rfl
theorem vzero_18 : env.zero 18 = some [.pointer none] := rfl
theorem vzero_19 : env.zero 19 = some [.pointer none] := rfl
theorem vzero_21 : env.zero 21 = some [.int .i32 0] := rfl
theorem vzero_22 : env.zero 22 = some [.nilFunc] := rfl
theorem vzero_23 : env.zero 23 = some [.int .i64 0, .int .i64 0] := rfl
theorem vzero_24 : env.zero 24 = some [.int .i64 0, .int .i64 0] := rfl
theorem vzero_25 : env.zero 25 = some [.nilFunc] := rfl
theorem vzero_26 : env.zero 26 = some [.int .i64 0, .int .i64 0] := rfl
theorem vzero_27 : env.zero 27 = some [.nilFunc] := rfl
theorem vzero_28 : env.zero 28 = some [.nilFunc] := rfl
theorem vzero_29 : env.zero 29 = some [.nilFunc] := rfl
theorem vzero_31 : env.zero 31 = some [.nilFunc] := rfl
theorem vzero_32 : env.zero 32 = some [.nilFunc] := rfl
theorem vzero_33 : env.zero 33 = some [.slice none 0 0] := rfl
theorem vzero_34 : env.zero 34 = some [.nilFunc] := rfl
theorem vzero_35 : env.zero 35 = some [.nilFunc] := rfl
theorem vzero_37 : env.zero 37 = some [.nilFunc] := rfl
theorem vzero_38 : env.zero 38 = some [.nilFunc] := rfl
theorem vzero_39 : env.zero 39 = some [.nilFunc] := rfl
theorem vzero_40 : env.zero 40 = some [.slice none 0 0] := rfl
theorem vzero_41 : env.zero 41 = some [.nilFunc] := rfl
theorem vzero_42 : env.zero 42 = some [.nilFunc] := rfl
theorem vzero_43 : env.zero 43 = some [.slice none 0 0] := rfl
theorem vzero_44 : env.zero 44 = some [.nilFunc] := rfl
theorem vzero_45 : env.zero 45 = some [.nilFunc] := rfl
theorem vzero_46 : env.zero 46 = some [.nilFunc] := rfl
theorem vzero_47 : env.zero 47 = some [.nilFunc] := rfl
theorem vzero_48 : env.zero 48 = some [.slice none 0 0] := rfl
theorem vzero_49 : env.zero 49 = some [.nilFunc] := rfl
theorem vzero_50 : env.zero 50 = some [.nilFunc] := rfl
theorem vzero_51 : env.zero 51 = some [.nilFunc] := rfl
theorem vzero_53 : env.zero 53 = some [.nilFunc] := rfl
theorem vzero_54 : env.zero 54 = some [.nilFunc] := rfl
theorem vzero_55 : env.zero 55 = some [.nilFunc] := rfl
theorem vzero_57 : env.zero 57 = some [.nilFunc] := rfl
theorem vzero_58 : env.zero 58 = some [.nilFunc] := rfl
theorem vzero_60 : env.zero 60 = some [.nilFunc] := rfl
theorem vzero_61 : env.zero 61 = some [.nilFunc] := rfl
theorem vzero_62 : env.zero 62 = some [.nilFunc] := rfl
theorem vzero_63 : env.zero 63 = some [.nilFunc] := rfl
theorem vzero_64 : env.zero 64 = some [.nilFunc] := rfl
theorem vzero_65 : env.zero 65 = some [.nilFunc] := rfl
theorem vzero_66 : env.zero 66 = some [.nilFunc] := rfl
theorem vzero_67 : env.zero 67 = some [.nilFunc] := rfl
theorem vzero_68 : env.zero 68 = some [.nilFunc] := rfl
theorem vzero_69 : env.zero 69 = some [.nilFunc] := rfl
theorem vzero_70 : env.zero 70 = some [.nilFunc] := rfl
theorem vzero_71 : env.zero 71 = some [.pointer none] := rfl
theorem vzero_72 : env.zero 72 = some [.nilFunc] := rfl
theorem vzero_73 : env.zero 73 = some [.nilFunc] := rfl
theorem vzero_75 : env.zero 75 = some [.nilFunc] := rfl
theorem vzero_76 : env.zero 76 = some [.nilFunc] := rfl
theorem vzero_77 : env.zero 77 = some [.nilFunc] := rfl
theorem vzero_79 : env.zero 79 = some [.nilFunc] := rfl
theorem vzero_80 : env.zero 80 = some [.nilFunc] := rfl
theorem vzero_81 : env.zero 81 = some [.nilFunc] := rfl
theorem vzero_82 : env.zero 82 = some [.nilFunc] := rfl
theorem vzero_83 : env.zero 83 = some [.nilFunc] := rfl
theorem vzero_84 : env.zero 84 = some [.nilFunc] := rfl
theorem vzero_85 : env.zero 85 = some [.nilFunc] := rfl
theorem vzero_86 : env.zero 86 = some [.nilFunc] := rfl
theorem vzero_87 : env.zero 87 = some [.nilFunc] := rfl
theorem vzero_88 : env.zero 88 = some [.nilFunc] := rfl
theorem vzero_89 : env.zero 89 = some [.int .u64 0] := rfl
theorem vzero_90 : env.zero 90 = some [.slice none 0 0, .int .i64 0, .int .u64 0] := rfl
theorem vzero_91 : env.zero 91 = some [.slice none 0 0, .int .i64 0, .int .u64 0] := rfl
theorem vzero_92 : env.zero 92 = some [.nilFunc] := rfl
theorem vzero_93 : env.zero 93 = some [.nilFunc] := rfl
theorem vzero_94 : env.zero 94 = some [.nilFunc] := rfl
theorem vzero_95 : env.zero 95 = some [.nilFunc] := rfl
theorem vzero_96 : env.zero 96 = some [.nilFunc] := rfl
theorem vzero_97 : env.zero 97 = some [.nilFunc] := rfl
theorem vzero_98 : env.zero 98 = some [.int .u64 0] := rfl
theorem vzero_99 : env.zero 99 = some [.nilFunc] := rfl
theorem vzero_100 : env.zero 100 = some [.nilFunc] := rfl
theorem vzero_101 : env.zero 101 = some [.nilFunc] := rfl
theorem vzero_102 : env.zero 102 = some [.nilFunc] := rfl
theorem vzero_103 : env.zero 103 = some [.nilFunc] := rfl
theorem vzero_104 : env.zero 104 = some [.int .i64 0] := rfl
theorem vzero_106 : env.zero 106 = some [.nilFunc] := rfl
theorem vzero_107 : env.zero 107 = some [.nilFunc] := rfl
theorem vzero_108 : env.zero 108 = some [.nilFunc] := rfl
theorem vzero_110 : env.zero 110 = some [.nilFunc] := rfl
theorem vzero_111 : env.zero 111 = some [.nilFunc] := rfl
theorem vzero_112 : env.zero 112 = some [.int .u32 0] := rfl
theorem vzero_113 : env.zero 113 = some [.nilFunc] := rfl
theorem vzero_114 : env.zero 114 = some [.slice none 0 0] := rfl
theorem vzero_115 : env.zero 115 = some [.int .u64 0] := rfl
theorem vzero_116 : env.zero 116 = some [.nilFunc] := rfl
theorem vzero_117 : env.zero 117 = some [.nilFunc] := rfl
theorem vzero_118 : env.zero 118 = some [.nilFunc] := rfl
theorem vzero_119 : env.zero 119 = some [.pointer none] := rfl
theorem vzero_120 : env.zero 120 = some [.nilFunc] := rfl
theorem vzero_121 : env.zero 121 = some [.pointer none] := rfl
theorem vzero_123 : env.zero 123 = some [.nilFunc] := rfl
theorem vzero_124 : env.zero 124 = some [.nilFunc] := rfl
theorem vzero_125 : env.zero 125 = some [.pointer none, .pointer none, .pointer none, .string ByteArray.empty] := rfl
theorem vzero_126 : env.zero 126 = some [.pointer none, .pointer none, .pointer none, .string ByteArray.empty] := rfl
theorem vzero_130 : env.zero 130 = some [.nilFunc] := rfl
theorem vzero_131 : env.zero 131 = some [.int .u8 0] := rfl
theorem vzero_132 : env.zero 132 = some [.int .u8 0] := rfl
theorem vzero_133 : env.zero 133 = some [.nilFunc] := rfl
theorem vzero_134 : env.zero 134 = some [.pointer none] := rfl
theorem vzero_135 : env.zero 135 = some [.int .i32 0] := rfl
theorem vzero_136 : env.zero 136 = some [.int .i32 0] := rfl
theorem vzero_137 : env.zero 137 = some [.int .u64 0, .int .u64 0, .int .u32 0, .int .u8 0, .int .u8 0, .int .u8 0, .int .u8 0, .nilFunc, .pointer none, .int .i32 0, .int .i32 0] := rfl
theorem vzero_138 : env.zero 138 = some [.int .u64 0, .int .u64 0, .int .u32 0, .int .u8 0, .int .u8 0, .int .u8 0, .int .u8 0, .nilFunc, .pointer none, .int .i32 0, .int .i32 0] := rfl
theorem vknd_2 : env.knd 2 = some (.int .i64) := rfl
theorem vknd_3 : env.knd 3 = some (.int .i64) := rfl
theorem vknd_4 : env.knd 4 = some (.bool) := rfl
theorem vknd_5 : env.knd 5 = some (.int .u8) := rfl
theorem vknd_6 : env.knd 6 = some (.int .u8) := rfl
theorem vknd_9 : env.knd 9 = some (.string) := rfl
theorem vknd_10 : env.knd 10 = some (.string) := rfl
theorem vknd_11 : env.knd 11 = some (.string) := rfl
theorem vknd_12 : env.knd 12 = some (.int .u64) := rfl
theorem vknd_21 : env.knd 21 = some (.int .i32) := rfl
theorem vknd_89 : env.knd 89 = some (.int .u64) := rfl
theorem vknd_98 : env.knd 98 = some (.int .u64) := rfl
theorem vknd_104 : env.knd 104 = some (.int .i64) := rfl
theorem vknd_112 : env.knd 112 = some (.int .u32) := rfl
theorem vknd_115 : env.knd 115 = some (.int .u64) := rfl
theorem vknd_131 : env.knd 131 = some (.int .u8) := rfl
theorem vknd_132 : env.knd 132 = some (.int .u8) := rfl
theorem vknd_135 : env.knd 135 = some (.int .i32) := rfl
theorem vknd_136 : env.knd 136 = some (.int .i32) := rfl
theorem vsn_2 : env.sl 2 = none := rfl
theorem vsn_3 : env.sl 3 = none := rfl
theorem vsn_4 : env.sl 4 = none := rfl
theorem vsn_5 : env.sl 5 = none := rfl
theorem vsn_6 : env.sl 6 = none := rfl
theorem vsn_9 : env.sl 9 = none := rfl
theorem vsn_10 : env.sl 10 = none := rfl
theorem vsn_11 : env.sl 11 = none := rfl
theorem vsn_12 : env.sl 12 = none := rfl
theorem vsn_21 : env.sl 21 = none := rfl
theorem vsn_89 : env.sl 89 = none := rfl
theorem vsn_98 : env.sl 98 = none := rfl
theorem vsn_104 : env.sl 104 = none := rfl
theorem vsn_112 : env.sl 112 = none := rfl
theorem vsn_115 : env.sl 115 = none := rfl
theorem vsn_131 : env.sl 131 = none := rfl
theorem vsn_132 : env.sl 132 = none := rfl
theorem vsn_135 : env.sl 135 = none := rfl
theorem vsn_136 : env.sl 136 = none := rfl
theorem vbld_7 : env.bld 7 = some [(0, 1), (1, 1), (2, 1), (3, 1)] := rfl
theorem vbld_8 : env.bld 8 = some [(0, 1), (1, 1), (2, 1), (3, 1)] := rfl
theorem vbld_13 : env.bld 13 = some [(0, 1), (1, 1)] := rfl
theorem vbld_14 : env.bld 14 = some [(0, 1), (1, 1)] := rfl
theorem vbld_18 : env.bld 18 = some [(0, 1)] := rfl
theorem vbld_19 : env.bld 19 = some [(0, 1)] := rfl
theorem vbld_23 : env.bld 23 = some [(0, 1), (1, 1)] := rfl
theorem vbld_24 : env.bld 24 = some [(0, 1), (1, 1)] := rfl
theorem vbld_26 : env.bld 26 = some [(0, 1), (1, 1)] := rfl
theorem vbld_90 : env.bld 90 = some [(0, 1), (1, 1), (2, 1)] := rfl
theorem vbld_91 : env.bld 91 = some [(0, 1), (1, 1), (2, 1)] := rfl
theorem vbld_125 : env.bld 125 = some [(0, 1), (1, 1), (2, 1), (3, 1)] := rfl
theorem vbld_126 : env.bld 126 = some [(0, 1), (1, 1), (2, 1), (3, 1)] := rfl
theorem vbld_137 : env.bld 137 = some [(0, 1), (1, 1), (2, 1), (3, 1), (4, 1), (5, 1), (6, 1), (7, 1), (8, 1), (9, 1), (10, 1)] := rfl
theorem vbld_138 : env.bld 138 = some [(0, 1), (1, 1), (2, 1), (3, 1), (4, 1), (5, 1), (6, 1), (7, 1), (8, 1), (9, 1), (10, 1)] := rfl
theorem vpts_23 : env.pts 23 = true := rfl
theorem vpts_24 : env.pts 24 = true := rfl
theorem vpts_26 : env.pts 26 = true := rfl
end Go.Proofs.Ytlkamicaoljefaa
