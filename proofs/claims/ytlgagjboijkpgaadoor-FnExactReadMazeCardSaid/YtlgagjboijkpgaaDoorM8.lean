/- Texts of this seat that the law stands on, put together. No conditions. -/
import Derived.Test.YtlgagjboijkpgaaDoorProg
import Derived.KernelRfl
import Derived.Test.YtlgagjboijkpgaaDoorM7
section
namespace Go.Proofs.YtlgagjboijkpgaaDoor
open Go.Eng
def eSl : TypeId → Option ETy
  | 27 => some (.int .i64)
  | 33 => some (.pt)
  | 36 => some (.pt)
  | 46 => some (.sli .i64)
  | 84 => some (.str)
  | 101 => some (.int .u8)
  | _ => none
def eVar : TypeId → Option (Bool × Nat)
  | 1 => some (false, 1)
  | 2 => some (false, 1)
  | 3 => some (false, 1)
  | 4 => some (false, 1)
  | 5 => some (false, 1)
  | 6 => some (false, 1)
  | 7 => some (true, 4)
  | 8 => some (true, 4)
  | 9 => some (false, 1)
  | 10 => some (false, 1)
  | 11 => some (false, 1)
  | 12 => some (false, 1)
  | 13 => some (true, 2)
  | 14 => some (true, 2)
  | 15 => some (false, 1)
  | 16 => some (false, 1)
  | 17 => some (false, 1)
  | 18 => some (true, 1)
  | 19 => some (true, 1)
  | 21 => some (false, 1)
  | 22 => some (false, 1)
  | 23 => some (false, 1)
  | 25 => some (false, 1)
  | 26 => some (false, 1)
  | 27 => some (false, 1)
  | 29 => some (false, 1)
  | 30 => some (false, 1)
  | 31 => some (false, 1)
  | 32 => some (false, 1)
  | 33 => some (false, 1)
  | 34 => some (false, 1)
  | 35 => some (false, 1)
  | 36 => some (false, 1)
  | 37 => some (false, 1)
  | 38 => some (false, 1)
  | 39 => some (false, 1)
  | 41 => some (false, 1)
  | 42 => some (false, 1)
  | 44 => some (false, 1)
  | 45 => some (false, 1)
  | 46 => some (false, 1)
  | 47 => some (true, 1)
  | 48 => some (true, 1)
  | 49 => some (false, 1)
  | 50 => some (false, 1)
  | 51 => some (true, 1)
  | 52 => some (false, 1)
  | 53 => some (false, 1)
  | 54 => some (false, 1)
  | 56 => some (false, 1)
  | 57 => some (false, 1)
  | 58 => some (true, 2)
  | 59 => some (true, 2)
  | 60 => some (false, 1)
  | 61 => some (false, 1)
  | 62 => some (true, 2)
  | 63 => some (false, 1)
  | 64 => some (false, 1)
  | 65 => some (false, 1)
  | 67 => some (false, 1)
  | 68 => some (false, 1)
  | 69 => some (false, 1)
  | 73 => some (false, 1)
  | 74 => some (false, 1)
  | 75 => some (false, 1)
  | 76 => some (false, 1)
  | 77 => some (false, 1)
  | 78 => some (false, 1)
  | 79 => some (true, 2)
  | 80 => some (true, 2)
  | 81 => some (false, 1)
  | 82 => some (true, 2)
  | 83 => some (false, 1)
  | 84 => some (false, 1)
  | 85 => some (false, 1)
  | 87 => some (false, 1)
  | 88 => some (false, 1)
  | 89 => some (false, 1)
  | 90 => some (false, 1)
  | 91 => some (false, 1)
  | 92 => some (false, 1)
  | 93 => some (false, 1)
  | 94 => some (false, 1)
  | 95 => some (false, 1)
  | 96 => some (false, 1)
  | 97 => some (false, 1)
  | 98 => some (false, 1)
  | 99 => some (false, 1)
  | 100 => some (false, 1)
  | 101 => some (false, 1)
  | 102 => some (false, 1)
  | 103 => some (false, 1)
  | 104 => some (false, 1)
  | 105 => some (false, 1)
  | 106 => some (false, 1)
  | 107 => some (false, 1)
  | 108 => some (false, 1)
  | 109 => some (true, 2)
  | 110 => some (true, 2)
  | 111 => some (false, 1)
  | 113 => some (false, 1)
  | 114 => some (false, 1)
  | 115 => some (false, 1)
  | 116 => some (false, 1)
  | 117 => some (false, 1)
  | 118 => some (false, 1)
  | 120 => some (false, 1)
  | 121 => some (false, 1)
  | 122 => some (false, 1)
  | 124 => some (false, 1)
  | 125 => some (false, 1)
  | 127 => some (false, 1)
  | 128 => some (false, 1)
  | 129 => some (false, 1)
  | 130 => some (false, 1)
  | 131 => some (false, 1)
  | 132 => some (false, 1)
  | 133 => some (false, 1)
  | 134 => some (false, 1)
  | 135 => some (false, 1)
  | 136 => some (false, 1)
  | 137 => some (false, 1)
  | 138 => some (false, 1)
  | 140 => some (false, 1)
  | 142 => some (false, 1)
  | 143 => some (false, 1)
  | 144 => some (false, 1)
  | 145 => some (false, 1)
  | 146 => some (true, 3)
  | 147 => some (true, 3)
  | 148 => some (false, 1)
  | 149 => some (false, 1)
  | 151 => some (false, 1)
  | 152 => some (false, 1)
  | 153 => some (false, 1)
  | 155 => some (false, 1)
  | 156 => some (false, 1)
  | 157 => some (false, 1)
  | 158 => some (true, 1)
  | 159 => some (true, 1)
  | 161 => some (false, 1)
  | 165 => some (true, 2)
  | 166 => some (true, 2)
  | 168 => some (true, 4)
  | 169 => some (true, 4)
  | 173 => some (false, 1)
  | 174 => some (false, 1)
  | 175 => some (false, 1)
  | 176 => some (false, 1)
  | 177 => some (false, 1)
  | 178 => some (false, 1)
  | 179 => some (true, 11)
  | 180 => some (true, 11)
  | 181 => some (false, 1)
  | _ => none
def eFld : TypeId → Nat → Option Nat
  | 48, 0 => some 0
  | 51, 0 => some 0
  | 59, 0 => some 0
  | 59, 1 => some 1
  | 62, 0 => some 0
  | 62, 1 => some 1
  | 80, 0 => some 0
  | 80, 1 => some 1
  | 82, 0 => some 0
  | 82, 1 => some 1
  | _, _ => none
def eZero : TypeId → Option (List Value)
  | 1 => some [.nilFunc]
  | 2 => some [.int .i64 0]
  | 3 => some [.int .i64 0]
  | 4 => some [.bool false]
  | 5 => some [.int .u8 0]
  | 6 => some [.int .u8 0]
  | 7 => some [.int .i64 0, .int .i64 0, .bool false, .int .u8 0]
  | 8 => some [.int .i64 0, .int .i64 0, .bool false, .int .u8 0]
  | 9 => some [.string ByteArray.empty]
  | 10 => some [.string ByteArray.empty]
  | 11 => some [.string ByteArray.empty]
  | 12 => some [.int .u64 0]
  | 13 => some [.string ByteArray.empty, .int .u64 0]
  | 14 => some [.string ByteArray.empty, .int .u64 0]
  | 15 => some [.pointer none]
  | 16 => some [.pointer none]
  | 17 => some [.pointer none]
  | 18 => some [.pointer none]
  | 19 => some [.pointer none]
  | 21 => some [.int .i32 0]
  | 22 => some [.nilFunc]
  | 23 => some [.nilFunc]
  | 25 => some [.nilFunc]
  | 26 => some [.nilFunc]
  | 27 => some [.slice none 0 0]
  | 29 => some [.nilFunc]
  | 30 => some [.nilFunc]
  | 31 => some [.nilFunc]
  | 32 => some [.nilFunc]
  | 33 => some [.slice none 0 0]
  | 34 => some [.nilFunc]
  | 35 => some [.nilFunc]
  | 36 => some [.slice none 0 0]
  | 37 => some [.nilFunc]
  | 38 => some [.nilFunc]
  | 39 => some [.nilFunc]
  | 41 => some [.nilFunc]
  | 42 => some [.nilFunc]
  | 44 => some [.nilFunc]
  | 45 => some [.nilFunc]
  | 46 => some [.slice none 0 0]
  | 47 => some [.slice none 0 0]
  | 48 => some [.slice none 0 0]
  | 49 => some [.nilFunc]
  | 50 => some [.nilFunc]
  | 51 => some [.slice none 0 0]
  | 52 => some [.nilFunc]
  | 53 => some [.nilFunc]
  | 54 => some [.nilFunc]
  | 56 => some [.nilFunc]
  | 57 => some [.nilFunc]
  | 58 => some [.slice none 0 0, .slice none 0 0]
  | 59 => some [.slice none 0 0, .slice none 0 0]
  | 60 => some [.nilFunc]
  | 61 => some [.nilFunc]
  | 62 => some [.slice none 0 0, .slice none 0 0]
  | 63 => some [.nilFunc]
  | 64 => some [.nilFunc]
  | 65 => some [.nilFunc]
  | 67 => some [.nilFunc]
  | 68 => some [.nilFunc]
  | 69 => some [.nilFunc]
  | 73 => some [.nilFunc]
  | 74 => some [.nilFunc]
  | 75 => some [.nilFunc]
  | 76 => some [.nilFunc]
  | 77 => some [.nilFunc]
  | 78 => some [.nilFunc]
  | 79 => some [.int .i64 0, .int .i64 0]
  | 80 => some [.int .i64 0, .int .i64 0]
  | 81 => some [.nilFunc]
  | 82 => some [.int .i64 0, .int .i64 0]
  | 83 => some [.nilFunc]
  | 84 => some [.slice none 0 0]
  | 85 => some [.nilFunc]
  | 87 => some [.nilFunc]
  | 88 => some [.nilFunc]
  | 89 => some [.nilFunc]
  | 90 => some [.pointer none]
  | 91 => some [.nilFunc]
  | 92 => some [.nilFunc]
  | 93 => some [.nilFunc]
  | 94 => some [.nilFunc]
  | 95 => some [.nilFunc]
  | 96 => some [.nilFunc]
  | 97 => some [.nilFunc]
  | 98 => some [.pointer none]
  | 99 => some [.nilFunc]
  | 100 => some [.nilFunc]
  | 101 => some [.slice none 0 0]
  | 102 => some [.nilFunc]
  | 103 => some [.nilFunc]
  | 104 => some [.nilFunc]
  | 105 => some [.nilFunc]
  | 106 => some [.nilFunc]
  | 107 => some [.nilFunc]
  | 108 => some [.pointer none]
  | 109 => some [.pointer none, .slice none 0 0]
  | 110 => some [.pointer none, .slice none 0 0]
  | 111 => some [.nilFunc]
  | 113 => some [.nilFunc]
  | 114 => some [.nilFunc]
  | 115 => some [.nilFunc]
  | 116 => some [.map none]
  | 117 => some [.nilFunc]
  | 118 => some [.nilFunc]
  | 120 => some [.int .u64 0]
  | 121 => some [.nilFunc]
  | 122 => some [.nilFunc]
  | 124 => some [.nilFunc]
  | 125 => some [.int .i64 0]
  | 127 => some [.nilFunc]
  | 128 => some [.int .u64 0]
  | 129 => some [.pointer none]
  | 130 => some [.nilFunc]
  | 131 => some [.nilFunc]
  | 132 => some [.nilFunc]
  | 133 => some [.nilFunc]
  | 134 => some [.pointer none]
  | 135 => some [.nilFunc]
  | 136 => some [.nilFunc]
  | 137 => some [.nilFunc]
  | 138 => some [.nilFunc]
  | 140 => some [.int .u32 0]
  | 142 => some [.nilFunc]
  | 143 => some [.nilFunc]
  | 144 => some [.nilFunc]
  | 145 => some [.nilFunc]
  | 146 => some [.string ByteArray.empty, .string ByteArray.empty, .nilIface]
  | 147 => some [.string ByteArray.empty, .string ByteArray.empty, .nilIface]
  | 148 => some [.nilFunc]
  | 149 => some [.nilFunc]
  | 151 => some [.nilFunc]
  | 152 => some [.nilFunc]
  | 153 => some [.nilFunc]
  | 155 => some [.nilFunc]
  | 156 => some [.nilFunc]
  | 157 => some [.pointer none]
  | 158 => some [.string ByteArray.empty]
  | 159 => some [.string ByteArray.empty]
  | 161 => some [.nilFunc]
  | 165 => some [.int .u8 0, .int .u8 0]
  | 166 => some [.int .u8 0, .int .u8 0]
  | 168 => some [.pointer none, .pointer none, .pointer none, .string ByteArray.empty]
  | 169 => some [.pointer none, .pointer none, .pointer none, .string ByteArray.empty]
  | 173 => some [.nilFunc]
  | 174 => some [.int .u8 0]
  | 175 => some [.int .u8 0]
  | 176 => some [.nilFunc]
  | 177 => some [.int .i32 0]
  | 178 => some [.int .i32 0]
  | 179 => some [.int .u64 0, .int .u64 0, .int .u32 0, .int .u8 0, .int .u8 0, .int .u8 0, .int .u8 0, .nilFunc, .pointer none, .int .i32 0, .int .i32 0]
  | 180 => some [.int .u64 0, .int .u64 0, .int .u32 0, .int .u8 0, .int .u8 0, .int .u8 0, .int .u8 0, .nilFunc, .pointer none, .int .i32 0, .int .i32 0]
  | 181 => some [.nilFunc]
  | _ => none
def eKnd : TypeId → Option TypeDesc
  | 2 => some (.int .i64)
  | 3 => some (.int .i64)
  | 4 => some (.bool)
  | 5 => some (.int .u8)
  | 6 => some (.int .u8)
  | 9 => some (.string)
  | 10 => some (.string)
  | 11 => some (.string)
  | 12 => some (.int .u64)
  | 21 => some (.int .i32)
  | 120 => some (.int .u64)
  | 125 => some (.int .i64)
  | 128 => some (.int .u64)
  | 140 => some (.int .u32)
  | 174 => some (.int .u8)
  | 175 => some (.int .u8)
  | 177 => some (.int .i32)
  | 178 => some (.int .i32)
  | _ => none
def eBld : TypeId → Option (List (Nat × Nat))
  | 7 => some [(0, 1), (1, 1), (2, 1), (3, 1)]
  | 8 => some [(0, 1), (1, 1), (2, 1), (3, 1)]
  | 13 => some [(0, 1), (1, 1)]
  | 14 => some [(0, 1), (1, 1)]
  | 18 => some [(0, 1)]
  | 19 => some [(0, 1)]
  | 47 => some [(0, 1)]
  | 48 => some [(0, 1)]
  | 51 => some [(0, 1)]
  | 58 => some [(0, 1), (1, 1)]
  | 59 => some [(0, 1), (1, 1)]
  | 62 => some [(0, 1), (1, 1)]
  | 79 => some [(0, 1), (1, 1)]
  | 80 => some [(0, 1), (1, 1)]
  | 82 => some [(0, 1), (1, 1)]
  | 109 => some [(0, 1), (1, 1)]
  | 110 => some [(0, 1), (1, 1)]
  | 146 => some [(0, 1), (1, 1), (2, 1)]
  | 147 => some [(0, 1), (1, 1), (2, 1)]
  | 158 => some [(0, 1)]
  | 159 => some [(0, 1)]
  | 165 => some [(0, 1), (1, 1)]
  | 166 => some [(0, 1), (1, 1)]
  | 168 => some [(0, 1), (1, 1), (2, 1), (3, 1)]
  | 169 => some [(0, 1), (1, 1), (2, 1), (3, 1)]
  | 179 => some [(0, 1), (1, 1), (2, 1), (3, 1), (4, 1), (5, 1), (6, 1), (7, 1), (8, 1), (9, 1), (10, 1)]
  | 180 => some [(0, 1), (1, 1), (2, 1), (3, 1), (4, 1), (5, 1), (6, 1), (7, 1), (8, 1), (9, 1), (10, 1)]
  | _ => none
def ePts : TypeId → Bool
  | 79 => true
  | 80 => true
  | 82 => true
  | _ => false
def eMp : TypeId → Option (KK × Value)
  | 116 => some (.int .i64, .int .i64 0)
  | _ => none
def eByt : TypeId → Bool
  | 101 => true
  | _ => false
def eIfc : TypeId → Bool
  | 20 => true
  | 70 => true
  | 71 => true
  | _ => false
def env : Env := { sl := eSl, var := eVar, fld := eFld, zero := eZero, knd := eKnd, bld := eBld, pts := ePts, mp := eMp, byt := eByt, ifc := eIfc }
theorem info1 : (Tryd.prog.info? 1).map (fun i => (i.zero, i.size, i.bytes)) = some (some (.nilFunc), 1, 8) := by kernel_rfl
theorem info2 : (Tryd.prog.info? 2).map (fun i => (i.zero, i.size, i.bytes)) = some (some (.int .i64 0), 1, 8) := by kernel_rfl
theorem info3 : (Tryd.prog.info? 3).map (fun i => (i.zero, i.size, i.bytes)) = some (some (.int .i64 0), 1, 8) := by kernel_rfl
theorem info4 : (Tryd.prog.info? 4).map (fun i => (i.zero, i.size, i.bytes)) = some (some (.bool false), 1, 1) := by kernel_rfl
theorem info5 : (Tryd.prog.info? 5).map (fun i => (i.zero, i.size, i.bytes)) = some (some (.int .u8 0), 1, 1) := by kernel_rfl
theorem info6 : (Tryd.prog.info? 6).map (fun i => (i.zero, i.size, i.bytes)) = some (some (.int .u8 0), 1, 1) := by kernel_rfl
theorem info7 : (Tryd.prog.info? 7).map (fun i => (i.zero, i.size, i.bytes)) = some (some (.agg #[.int .i64 0, .int .i64 0, .bool false, .int .u8 0]), 4, 24) := by kernel_rfl
theorem info8 : (Tryd.prog.info? 8).map (fun i => (i.zero, i.size, i.bytes)) = some (some (.agg #[.int .i64 0, .int .i64 0, .bool false, .int .u8 0]), 4, 24) := by kernel_rfl
theorem info9 : (Tryd.prog.info? 9).map (fun i => (i.zero, i.size, i.bytes)) = some (some (.string ByteArray.empty), 1, 16) := by kernel_rfl
theorem info10 : (Tryd.prog.info? 10).map (fun i => (i.zero, i.size, i.bytes)) = some (some (.string ByteArray.empty), 1, 16) := by kernel_rfl
theorem info11 : (Tryd.prog.info? 11).map (fun i => (i.zero, i.size, i.bytes)) = some (some (.string ByteArray.empty), 1, 16) := by kernel_rfl
theorem info12 : (Tryd.prog.info? 12).map (fun i => (i.zero, i.size, i.bytes)) = some (some (.int .u64 0), 1, 8) := by kernel_rfl
theorem info13 : (Tryd.prog.info? 13).map (fun i => (i.zero, i.size, i.bytes)) = some (some (.agg #[.string ByteArray.empty, .int .u64 0]), 2, 24) := by kernel_rfl
theorem info14 : (Tryd.prog.info? 14).map (fun i => (i.zero, i.size, i.bytes)) = some (some (.agg #[.string ByteArray.empty, .int .u64 0]), 2, 24) := by kernel_rfl
theorem info15 : (Tryd.prog.info? 15).map (fun i => (i.zero, i.size, i.bytes)) = some (some (.pointer none), 1, 8) := by kernel_rfl
theorem info16 : (Tryd.prog.info? 16).map (fun i => (i.zero, i.size, i.bytes)) = some (some (.pointer none), 1, 8) := by kernel_rfl
theorem info17 : (Tryd.prog.info? 17).map (fun i => (i.zero, i.size, i.bytes)) = some (some (.pointer none), 1, 8) := by kernel_rfl
theorem info18 : (Tryd.prog.info? 18).map (fun i => (i.zero, i.size, i.bytes)) = some (some (.agg #[.pointer none]), 1, 8) := by kernel_rfl
theorem info19 : (Tryd.prog.info? 19).map (fun i => (i.zero, i.size, i.bytes)) = some (some (.agg #[.pointer none]), 1, 8) := by kernel_rfl
theorem info21 : (Tryd.prog.info? 21).map (fun i => (i.zero, i.size, i.bytes)) = some (some (.int .i32 0), 1, 4) := by kernel_rfl
theorem info22 : (Tryd.prog.info? 22).map (fun i => (i.zero, i.size, i.bytes)) = some (some (.nilFunc), 1, 8) := by kernel_rfl
theorem info23 : (Tryd.prog.info? 23).map (fun i => (i.zero, i.size, i.bytes)) = some (some (.nilFunc), 1, 8) := by kernel_rfl
theorem info25 : (Tryd.prog.info? 25).map (fun i => (i.zero, i.size, i.bytes)) = some (some (.nilFunc), 1, 8) := by kernel_rfl
theorem info26 : (Tryd.prog.info? 26).map (fun i => (i.zero, i.size, i.bytes)) = some (some (.nilFunc), 1, 8) := by kernel_rfl
theorem info27 : (Tryd.prog.info? 27).map (fun i => (i.zero, i.size, i.bytes)) = some (some (.slice none 0 0), 1, 24) := by kernel_rfl
theorem info29 : (Tryd.prog.info? 29).map (fun i => (i.zero, i.size, i.bytes)) = some (some (.nilFunc), 1, 8) := by kernel_rfl
theorem info30 : (Tryd.prog.info? 30).map (fun i => (i.zero, i.size, i.bytes)) = some (some (.nilFunc), 1, 8) := by kernel_rfl
theorem info31 : (Tryd.prog.info? 31).map (fun i => (i.zero, i.size, i.bytes)) = some (some (.nilFunc), 1, 8) := by kernel_rfl
theorem info32 : (Tryd.prog.info? 32).map (fun i => (i.zero, i.size, i.bytes)) = some (some (.nilFunc), 1, 8) := by kernel_rfl
theorem info33 : (Tryd.prog.info? 33).map (fun i => (i.zero, i.size, i.bytes)) = some (some (.slice none 0 0), 1, 24) := by kernel_rfl
theorem info34 : (Tryd.prog.info? 34).map (fun i => (i.zero, i.size, i.bytes)) = some (some (.nilFunc), 1, 8) := by kernel_rfl
theorem info35 : (Tryd.prog.info? 35).map (fun i => (i.zero, i.size, i.bytes)) = some (some (.nilFunc), 1, 8) := by kernel_rfl
theorem info36 : (Tryd.prog.info? 36).map (fun i => (i.zero, i.size, i.bytes)) = some (some (.slice none 0 0), 1, 24) := by kernel_rfl
theorem info37 : (Tryd.prog.info? 37).map (fun i => (i.zero, i.size, i.bytes)) = some (some (.nilFunc), 1, 8) := by kernel_rfl
theorem info38 : (Tryd.prog.info? 38).map (fun i => (i.zero, i.size, i.bytes)) = some (some (.nilFunc), 1, 8) := by kernel_rfl
theorem info39 : (Tryd.prog.info? 39).map (fun i => (i.zero, i.size, i.bytes)) = some (some (.nilFunc), 1, 8) := by kernel_rfl
theorem info41 : (Tryd.prog.info? 41).map (fun i => (i.zero, i.size, i.bytes)) = some (some (.nilFunc), 1, 8) := by kernel_rfl
theorem info42 : (Tryd.prog.info? 42).map (fun i => (i.zero, i.size, i.bytes)) = some (some (.nilFunc), 1, 8) := by kernel_rfl
theorem info44 : (Tryd.prog.info? 44).map (fun i => (i.zero, i.size, i.bytes)) = some (some (.nilFunc), 1, 8) := by kernel_rfl
theorem info45 : (Tryd.prog.info? 45).map (fun i => (i.zero, i.size, i.bytes)) = some (some (.nilFunc), 1, 8) := by kernel_rfl
theorem info46 : (Tryd.prog.info? 46).map (fun i => (i.zero, i.size, i.bytes)) = some (some (.slice none 0 0), 1, 24) := by kernel_rfl
theorem info47 : (Tryd.prog.info? 47).map (fun i => (i.zero, i.size, i.bytes)) = some (some (.agg #[.slice none 0 0]), 1, 24) := by kernel_rfl
theorem info48 : (Tryd.prog.info? 48).map (fun i => (i.zero, i.size, i.bytes)) = some (some (.agg #[.slice none 0 0]), 1, 24) := by kernel_rfl
theorem info49 : (Tryd.prog.info? 49).map (fun i => (i.zero, i.size, i.bytes)) = some (some (.nilFunc), 1, 8) := by kernel_rfl
theorem info50 : (Tryd.prog.info? 50).map (fun i => (i.zero, i.size, i.bytes)) = some (some (.nilFunc), 1, 8) := by kernel_rfl
theorem info51 : (Tryd.prog.info? 51).map (fun i => (i.zero, i.size, i.bytes)) = some (some (.agg #[.slice none 0 0]), 1, 24) := by kernel_rfl
theorem info52 : (Tryd.prog.info? 52).map (fun i => (i.zero, i.size, i.bytes)) = some (some (.nilFunc), 1, 8) := by kernel_rfl
theorem info53 : (Tryd.prog.info? 53).map (fun i => (i.zero, i.size, i.bytes)) = some (some (.nilFunc), 1, 8) := by kernel_rfl
theorem info54 : (Tryd.prog.info? 54).map (fun i => (i.zero, i.size, i.bytes)) = some (some (.nilFunc), 1, 8) := by kernel_rfl
theorem info56 : (Tryd.prog.info? 56).map (fun i => (i.zero, i.size, i.bytes)) = some (some (.nilFunc), 1, 8) := by kernel_rfl
theorem info57 : (Tryd.prog.info? 57).map (fun i => (i.zero, i.size, i.bytes)) = some (some (.nilFunc), 1, 8) := by kernel_rfl
theorem info58 : (Tryd.prog.info? 58).map (fun i => (i.zero, i.size, i.bytes)) = some (some (.agg #[.slice none 0 0, .slice none 0 0]), 2, 48) := by kernel_rfl
theorem info59 : (Tryd.prog.info? 59).map (fun i => (i.zero, i.size, i.bytes)) = some (some (.agg #[.slice none 0 0, .slice none 0 0]), 2, 48) := by kernel_rfl
theorem info60 : (Tryd.prog.info? 60).map (fun i => (i.zero, i.size, i.bytes)) = some (some (.nilFunc), 1, 8) := by kernel_rfl
theorem info61 : (Tryd.prog.info? 61).map (fun i => (i.zero, i.size, i.bytes)) = some (some (.nilFunc), 1, 8) := by kernel_rfl
theorem info62 : (Tryd.prog.info? 62).map (fun i => (i.zero, i.size, i.bytes)) = some (some (.agg #[.slice none 0 0, .slice none 0 0]), 2, 48) := by kernel_rfl
theorem info63 : (Tryd.prog.info? 63).map (fun i => (i.zero, i.size, i.bytes)) = some (some (.nilFunc), 1, 8) := by kernel_rfl
theorem info64 : (Tryd.prog.info? 64).map (fun i => (i.zero, i.size, i.bytes)) = some (some (.nilFunc), 1, 8) := by kernel_rfl
theorem info65 : (Tryd.prog.info? 65).map (fun i => (i.zero, i.size, i.bytes)) = some (some (.nilFunc), 1, 8) := by kernel_rfl
theorem info67 : (Tryd.prog.info? 67).map (fun i => (i.zero, i.size, i.bytes)) = some (some (.nilFunc), 1, 8) := by kernel_rfl
theorem info68 : (Tryd.prog.info? 68).map (fun i => (i.zero, i.size, i.bytes)) = some (some (.nilFunc), 1, 8) := by kernel_rfl
theorem info69 : (Tryd.prog.info? 69).map (fun i => (i.zero, i.size, i.bytes)) = some (some (.nilFunc), 1, 8) := by kernel_rfl
theorem info73 : (Tryd.prog.info? 73).map (fun i => (i.zero, i.size, i.bytes)) = some (some (.nilFunc), 1, 8) := by kernel_rfl
theorem info74 : (Tryd.prog.info? 74).map (fun i => (i.zero, i.size, i.bytes)) = some (some (.nilFunc), 1, 8) := by kernel_rfl
theorem info75 : (Tryd.prog.info? 75).map (fun i => (i.zero, i.size, i.bytes)) = some (some (.nilFunc), 1, 8) := by kernel_rfl
theorem info76 : (Tryd.prog.info? 76).map (fun i => (i.zero, i.size, i.bytes)) = some (some (.nilFunc), 1, 8) := by kernel_rfl
theorem info77 : (Tryd.prog.info? 77).map (fun i => (i.zero, i.size, i.bytes)) = some (some (.nilFunc), 1, 8) := by kernel_rfl
theorem info78 : (Tryd.prog.info? 78).map (fun i => (i.zero, i.size, i.bytes)) = some (some (.nilFunc), 1, 8) := by kernel_rfl
theorem info79 : (Tryd.prog.info? 79).map (fun i => (i.zero, i.size, i.bytes)) = some (some (.agg #[.int .i64 0, .int .i64 0]), 2, 16) := by kernel_rfl
theorem info80 : (Tryd.prog.info? 80).map (fun i => (i.zero, i.size, i.bytes)) = some (some (.agg #[.int .i64 0, .int .i64 0]), 2, 16) := by kernel_rfl
theorem info81 : (Tryd.prog.info? 81).map (fun i => (i.zero, i.size, i.bytes)) = some (some (.nilFunc), 1, 8) := by kernel_rfl
theorem info82 : (Tryd.prog.info? 82).map (fun i => (i.zero, i.size, i.bytes)) = some (some (.agg #[.int .i64 0, .int .i64 0]), 2, 16) := by kernel_rfl
theorem info83 : (Tryd.prog.info? 83).map (fun i => (i.zero, i.size, i.bytes)) = some (some (.nilFunc), 1, 8) := by kernel_rfl
theorem info84 : (Tryd.prog.info? 84).map (fun i => (i.zero, i.size, i.bytes)) = some (some (.slice none 0 0), 1, 24) := by kernel_rfl
theorem info85 : (Tryd.prog.info? 85).map (fun i => (i.zero, i.size, i.bytes)) = some (some (.nilFunc), 1, 8) := by kernel_rfl
theorem info87 : (Tryd.prog.info? 87).map (fun i => (i.zero, i.size, i.bytes)) = some (some (.nilFunc), 1, 8) := by kernel_rfl
theorem info88 : (Tryd.prog.info? 88).map (fun i => (i.zero, i.size, i.bytes)) = some (some (.nilFunc), 1, 8) := by kernel_rfl
theorem info89 : (Tryd.prog.info? 89).map (fun i => (i.zero, i.size, i.bytes)) = some (some (.nilFunc), 1, 8) := by kernel_rfl
theorem info90 : (Tryd.prog.info? 90).map (fun i => (i.zero, i.size, i.bytes)) = some (some (.pointer none), 1, 8) := by kernel_rfl
theorem info91 : (Tryd.prog.info? 91).map (fun i => (i.zero, i.size, i.bytes)) = some (some (.nilFunc), 1, 8) := by kernel_rfl
theorem info92 : (Tryd.prog.info? 92).map (fun i => (i.zero, i.size, i.bytes)) = some (some (.nilFunc), 1, 8) := by kernel_rfl
theorem info93 : (Tryd.prog.info? 93).map (fun i => (i.zero, i.size, i.bytes)) = some (some (.nilFunc), 1, 8) := by kernel_rfl
theorem info94 : (Tryd.prog.info? 94).map (fun i => (i.zero, i.size, i.bytes)) = some (some (.nilFunc), 1, 8) := by kernel_rfl
theorem info95 : (Tryd.prog.info? 95).map (fun i => (i.zero, i.size, i.bytes)) = some (some (.nilFunc), 1, 8) := by kernel_rfl
theorem info96 : (Tryd.prog.info? 96).map (fun i => (i.zero, i.size, i.bytes)) = some (some (.nilFunc), 1, 8) := by kernel_rfl
theorem info97 : (Tryd.prog.info? 97).map (fun i => (i.zero, i.size, i.bytes)) = some (some (.nilFunc), 1, 8) := by kernel_rfl
theorem info98 : (Tryd.prog.info? 98).map (fun i => (i.zero, i.size, i.bytes)) = some (some (.pointer none), 1, 8) := by kernel_rfl
theorem info99 : (Tryd.prog.info? 99).map (fun i => (i.zero, i.size, i.bytes)) = some (some (.nilFunc), 1, 8) := by kernel_rfl
theorem info100 : (Tryd.prog.info? 100).map (fun i => (i.zero, i.size, i.bytes)) = some (some (.nilFunc), 1, 8) := by kernel_rfl
theorem info101 : (Tryd.prog.info? 101).map (fun i => (i.zero, i.size, i.bytes)) = some (some (.slice none 0 0), 1, 24) := by kernel_rfl
theorem info102 : (Tryd.prog.info? 102).map (fun i => (i.zero, i.size, i.bytes)) = some (some (.nilFunc), 1, 8) := by kernel_rfl
theorem info103 : (Tryd.prog.info? 103).map (fun i => (i.zero, i.size, i.bytes)) = some (some (.nilFunc), 1, 8) := by kernel_rfl
theorem info104 : (Tryd.prog.info? 104).map (fun i => (i.zero, i.size, i.bytes)) = some (some (.nilFunc), 1, 8) := by kernel_rfl
theorem info105 : (Tryd.prog.info? 105).map (fun i => (i.zero, i.size, i.bytes)) = some (some (.nilFunc), 1, 8) := by kernel_rfl
theorem info106 : (Tryd.prog.info? 106).map (fun i => (i.zero, i.size, i.bytes)) = some (some (.nilFunc), 1, 8) := by kernel_rfl
theorem info107 : (Tryd.prog.info? 107).map (fun i => (i.zero, i.size, i.bytes)) = some (some (.nilFunc), 1, 8) := by kernel_rfl
theorem info108 : (Tryd.prog.info? 108).map (fun i => (i.zero, i.size, i.bytes)) = some (some (.pointer none), 1, 8) := by kernel_rfl
theorem info109 : (Tryd.prog.info? 109).map (fun i => (i.zero, i.size, i.bytes)) = some (some (.agg #[.pointer none, .slice none 0 0]), 2, 32) := by kernel_rfl
theorem info110 : (Tryd.prog.info? 110).map (fun i => (i.zero, i.size, i.bytes)) = some (some (.agg #[.pointer none, .slice none 0 0]), 2, 32) := by kernel_rfl
theorem info111 : (Tryd.prog.info? 111).map (fun i => (i.zero, i.size, i.bytes)) = some (some (.nilFunc), 1, 8) := by kernel_rfl
theorem info113 : (Tryd.prog.info? 113).map (fun i => (i.zero, i.size, i.bytes)) = some (some (.nilFunc), 1, 8) := by kernel_rfl
theorem info114 : (Tryd.prog.info? 114).map (fun i => (i.zero, i.size, i.bytes)) = some (some (.nilFunc), 1, 8) := by kernel_rfl
theorem info115 : (Tryd.prog.info? 115).map (fun i => (i.zero, i.size, i.bytes)) = some (some (.nilFunc), 1, 8) := by kernel_rfl
theorem info116 : (Tryd.prog.info? 116).map (fun i => (i.zero, i.size, i.bytes)) = some (some (.map none), 1, 8) := by kernel_rfl
theorem info117 : (Tryd.prog.info? 117).map (fun i => (i.zero, i.size, i.bytes)) = some (some (.nilFunc), 1, 8) := by kernel_rfl
theorem info118 : (Tryd.prog.info? 118).map (fun i => (i.zero, i.size, i.bytes)) = some (some (.nilFunc), 1, 8) := by kernel_rfl
theorem info120 : (Tryd.prog.info? 120).map (fun i => (i.zero, i.size, i.bytes)) = some (some (.int .u64 0), 1, 8) := by kernel_rfl
theorem info121 : (Tryd.prog.info? 121).map (fun i => (i.zero, i.size, i.bytes)) = some (some (.nilFunc), 1, 8) := by kernel_rfl
theorem info122 : (Tryd.prog.info? 122).map (fun i => (i.zero, i.size, i.bytes)) = some (some (.nilFunc), 1, 8) := by kernel_rfl
theorem info124 : (Tryd.prog.info? 124).map (fun i => (i.zero, i.size, i.bytes)) = some (some (.nilFunc), 1, 8) := by kernel_rfl
theorem info125 : (Tryd.prog.info? 125).map (fun i => (i.zero, i.size, i.bytes)) = some (some (.int .i64 0), 1, 8) := by kernel_rfl
theorem info127 : (Tryd.prog.info? 127).map (fun i => (i.zero, i.size, i.bytes)) = some (some (.nilFunc), 1, 8) := by kernel_rfl
theorem info128 : (Tryd.prog.info? 128).map (fun i => (i.zero, i.size, i.bytes)) = some (some (.int .u64 0), 1, 8) := by kernel_rfl
theorem info129 : (Tryd.prog.info? 129).map (fun i => (i.zero, i.size, i.bytes)) = some (some (.pointer none), 1, 8) := by kernel_rfl
theorem info130 : (Tryd.prog.info? 130).map (fun i => (i.zero, i.size, i.bytes)) = some (some (.nilFunc), 1, 8) := by kernel_rfl
theorem info131 : (Tryd.prog.info? 131).map (fun i => (i.zero, i.size, i.bytes)) = some (some (.nilFunc), 1, 8) := by kernel_rfl
theorem info132 : (Tryd.prog.info? 132).map (fun i => (i.zero, i.size, i.bytes)) = some (some (.nilFunc), 1, 8) := by kernel_rfl
theorem info133 : (Tryd.prog.info? 133).map (fun i => (i.zero, i.size, i.bytes)) = some (some (.nilFunc), 1, 8) := by kernel_rfl
theorem info134 : (Tryd.prog.info? 134).map (fun i => (i.zero, i.size, i.bytes)) = some (some (.pointer none), 1, 8) := by kernel_rfl
theorem info135 : (Tryd.prog.info? 135).map (fun i => (i.zero, i.size, i.bytes)) = some (some (.nilFunc), 1, 8) := by kernel_rfl
theorem info136 : (Tryd.prog.info? 136).map (fun i => (i.zero, i.size, i.bytes)) = some (some (.nilFunc), 1, 8) := by kernel_rfl
theorem info137 : (Tryd.prog.info? 137).map (fun i => (i.zero, i.size, i.bytes)) = some (some (.nilFunc), 1, 8) := by kernel_rfl
theorem info138 : (Tryd.prog.info? 138).map (fun i => (i.zero, i.size, i.bytes)) = some (some (.nilFunc), 1, 8) := by kernel_rfl
theorem info140 : (Tryd.prog.info? 140).map (fun i => (i.zero, i.size, i.bytes)) = some (some (.int .u32 0), 1, 4) := by kernel_rfl
theorem info142 : (Tryd.prog.info? 142).map (fun i => (i.zero, i.size, i.bytes)) = some (some (.nilFunc), 1, 8) := by kernel_rfl
theorem info143 : (Tryd.prog.info? 143).map (fun i => (i.zero, i.size, i.bytes)) = some (some (.nilFunc), 1, 8) := by kernel_rfl
theorem info144 : (Tryd.prog.info? 144).map (fun i => (i.zero, i.size, i.bytes)) = some (some (.nilFunc), 1, 8) := by kernel_rfl
theorem info145 : (Tryd.prog.info? 145).map (fun i => (i.zero, i.size, i.bytes)) = some (some (.nilFunc), 1, 8) := by kernel_rfl
theorem info146 : (Tryd.prog.info? 146).map (fun i => (i.zero, i.size, i.bytes)) = some (some (.agg #[.string ByteArray.empty, .string ByteArray.empty, .nilIface]), 3, 48) := by kernel_rfl
theorem info147 : (Tryd.prog.info? 147).map (fun i => (i.zero, i.size, i.bytes)) = some (some (.agg #[.string ByteArray.empty, .string ByteArray.empty, .nilIface]), 3, 48) := by kernel_rfl
theorem info148 : (Tryd.prog.info? 148).map (fun i => (i.zero, i.size, i.bytes)) = some (some (.nilFunc), 1, 8) := by kernel_rfl
theorem info149 : (Tryd.prog.info? 149).map (fun i => (i.zero, i.size, i.bytes)) = some (some (.nilFunc), 1, 8) := by kernel_rfl
theorem info151 : (Tryd.prog.info? 151).map (fun i => (i.zero, i.size, i.bytes)) = some (some (.nilFunc), 1, 8) := by kernel_rfl
theorem info152 : (Tryd.prog.info? 152).map (fun i => (i.zero, i.size, i.bytes)) = some (some (.nilFunc), 1, 8) := by kernel_rfl
theorem info153 : (Tryd.prog.info? 153).map (fun i => (i.zero, i.size, i.bytes)) = some (some (.nilFunc), 1, 8) := by kernel_rfl
theorem info155 : (Tryd.prog.info? 155).map (fun i => (i.zero, i.size, i.bytes)) = some (some (.nilFunc), 1, 8) := by kernel_rfl
theorem info156 : (Tryd.prog.info? 156).map (fun i => (i.zero, i.size, i.bytes)) = some (some (.nilFunc), 1, 8) := by kernel_rfl
theorem info157 : (Tryd.prog.info? 157).map (fun i => (i.zero, i.size, i.bytes)) = some (some (.pointer none), 1, 8) := by kernel_rfl
theorem info158 : (Tryd.prog.info? 158).map (fun i => (i.zero, i.size, i.bytes)) = some (some (.agg #[.string ByteArray.empty]), 1, 16) := by kernel_rfl
theorem info159 : (Tryd.prog.info? 159).map (fun i => (i.zero, i.size, i.bytes)) = some (some (.agg #[.string ByteArray.empty]), 1, 16) := by kernel_rfl
theorem info161 : (Tryd.prog.info? 161).map (fun i => (i.zero, i.size, i.bytes)) = some (some (.nilFunc), 1, 8) := by kernel_rfl
theorem info165 : (Tryd.prog.info? 165).map (fun i => (i.zero, i.size, i.bytes)) = some (some (.agg #[.int .u8 0, .int .u8 0]), 2, 2) := by kernel_rfl
theorem info166 : (Tryd.prog.info? 166).map (fun i => (i.zero, i.size, i.bytes)) = some (some (.agg #[.int .u8 0, .int .u8 0]), 2, 2) := by kernel_rfl
theorem info168 : (Tryd.prog.info? 168).map (fun i => (i.zero, i.size, i.bytes)) = some (some (.agg #[.pointer none, .pointer none, .pointer none, .string ByteArray.empty]), 4, 40) := by kernel_rfl
theorem info169 : (Tryd.prog.info? 169).map (fun i => (i.zero, i.size, i.bytes)) = some (some (.agg #[.pointer none, .pointer none, .pointer none, .string ByteArray.empty]), 4, 40) := by kernel_rfl
theorem info173 : (Tryd.prog.info? 173).map (fun i => (i.zero, i.size, i.bytes)) = some (some (.nilFunc), 1, 8) := by kernel_rfl
theorem info174 : (Tryd.prog.info? 174).map (fun i => (i.zero, i.size, i.bytes)) = some (some (.int .u8 0), 1, 1) := by kernel_rfl
theorem info175 : (Tryd.prog.info? 175).map (fun i => (i.zero, i.size, i.bytes)) = some (some (.int .u8 0), 1, 1) := by kernel_rfl
theorem info176 : (Tryd.prog.info? 176).map (fun i => (i.zero, i.size, i.bytes)) = some (some (.nilFunc), 1, 8) := by kernel_rfl
theorem info177 : (Tryd.prog.info? 177).map (fun i => (i.zero, i.size, i.bytes)) = some (some (.int .i32 0), 1, 4) := by kernel_rfl
theorem info178 : (Tryd.prog.info? 178).map (fun i => (i.zero, i.size, i.bytes)) = some (some (.int .i32 0), 1, 4) := by kernel_rfl
theorem info179 : (Tryd.prog.info? 179).map (fun i => (i.zero, i.size, i.bytes)) = some (some (.agg #[.int .u64 0, .int .u64 0, .int .u32 0, .int .u8 0, .int .u8 0, .int .u8 0, .int .u8 0, .nilFunc, .pointer none, .int .i32 0, .int .i32 0]), 11, 48) := by kernel_rfl
theorem info180 : (Tryd.prog.info? 180).map (fun i => (i.zero, i.size, i.bytes)) = some (some (.agg #[.int .u64 0, .int .u64 0, .int .u32 0, .int .u8 0, .int .u8 0, .int .u8 0, .int .u8 0, .nilFunc, .pointer none, .int .i32 0, .int .i32 0]), 11, 48) := by kernel_rfl
theorem info181 : (Tryd.prog.info? 181).map (fun i => (i.zero, i.size, i.bytes)) = some (some (.nilFunc), 1, 8) := by kernel_rfl
theorem env_sl : ∀ t e, eSl t = some e → ∃ et i z, Tryd.prog.underlying t = some (.slice et) ∧ Tryd.prog.info? et = some i ∧ i.size = e.sz ∧ i.zero = some z ∧ z.cells.size = e.sz ∧ i.bytes ≤ 64 ∧
    ∀ j, j < e.sz → (e.enc e.d).getD j .junk = .v (z.cells.toList.getD j undef) ∨ ∃ e', (e.enc e.d).getD j .junk = .rd e' [] ∧ z.cells.toList.getD j undef = .slice none 0 0 := by
  intro t e h
  unfold eSl at h
  split at h
  · cases h; obtain ⟨i, h1, h2, h3, h4⟩ := info_parts info2
    exact ⟨2, i, _, Tryd.underlying27, h1, h3, h2, rfl, by rw [h4]; decide, fun j hj => .inl (by rcases j with _ | j <;> first | rfl | (exact absurd hj (by simp [ETy.sz])))⟩
  · cases h; obtain ⟨i, h1, h2, h3, h4⟩ := info_parts info82
    exact ⟨82, i, _, Tryd.underlying33, h1, h3, h2, rfl, by rw [h4]; decide, fun j hj => .inl (by rcases j with _ | _ | j <;> first | rfl | (exact absurd hj (by simp [ETy.sz])))⟩
  · cases h; obtain ⟨i, h1, h2, h3, h4⟩ := info_parts info80
    exact ⟨80, i, _, Tryd.underlying36, h1, h3, h2, rfl, by rw [h4]; decide, fun j hj => .inl (by rcases j with _ | _ | j <;> first | rfl | (exact absurd hj (by simp [ETy.sz])))⟩
  · cases h; obtain ⟨i, h1, h2, h3, h4⟩ := info_parts info27
    exact ⟨27, i, _, Tryd.underlying46, h1, h3, h2, rfl, by rw [h4]; decide, fun j hj => .inr ⟨_, by rcases j with _ | j <;> first | rfl | (exact absurd hj (by simp [ETy.sz])), by rcases j with _ | j <;> first | rfl | (exact absurd hj (by simp [ETy.sz]))⟩⟩
  · cases h; obtain ⟨i, h1, h2, h3, h4⟩ := info_parts info9
    exact ⟨9, i, _, Tryd.underlying84, h1, h3, h2, rfl, by rw [h4]; decide, fun j hj => .inl (by rcases j with _ | j <;> first | rfl | (exact absurd hj (by simp [ETy.sz])))⟩
  · cases h; obtain ⟨i, h1, h2, h3, h4⟩ := info_parts info5
    exact ⟨5, i, _, Tryd.underlying101, h1, h3, h2, rfl, by rw [h4]; decide, fun j hj => .inl (by rcases j with _ | j <;> first | rfl | (exact absurd hj (by simp [ETy.sz])))⟩
  · cases h
theorem info_three {P : Program} {e : TypeId} {z : Option Value} {size bytes : Nat} (h : (P.info? e).map (fun i => (i.zero, i.size, i.bytes)) = some (z, size, bytes)) : ∃ i, P.info? e = some i ∧ i.size = size := by
  obtain ⟨i, hi, hzz⟩ := Option.map_eq_some_iff.1 h
  simp only [Prod.mk.injEq] at hzz
  exact ⟨i, hi, hzz.2.1⟩
theorem env_var : ∀ t a s, eVar t = some (a, s) → ∃ d i, Tryd.prog.underlying t = some d ∧ (match d with | .struct _ | .array _ _ => true | _ => false) = a ∧ Tryd.prog.info? t = some i ∧ i.size = s := by
  intro t a s h
  unfold eVar at h
  split at h
  · cases h; obtain ⟨i, h1, h2⟩ := info_three info1; exact ⟨_, i, Tryd.underlying1, rfl, h1, h2⟩
  · cases h; obtain ⟨i, h1, h2⟩ := info_three info2; exact ⟨_, i, Tryd.underlying2, rfl, h1, h2⟩
  · cases h; obtain ⟨i, h1, h2⟩ := info_three info3; exact ⟨_, i, Tryd.underlying3, rfl, h1, h2⟩
  · cases h; obtain ⟨i, h1, h2⟩ := info_three info4; exact ⟨_, i, Tryd.underlying4, rfl, h1, h2⟩
  · cases h; obtain ⟨i, h1, h2⟩ := info_three info5; exact ⟨_, i, Tryd.underlying5, rfl, h1, h2⟩
  · cases h; obtain ⟨i, h1, h2⟩ := info_three info6; exact ⟨_, i, Tryd.underlying6, rfl, h1, h2⟩
  · cases h; obtain ⟨i, h1, h2⟩ := info_three info7; exact ⟨_, i, Tryd.underlying7, rfl, h1, h2⟩
  · cases h; obtain ⟨i, h1, h2⟩ := info_three info8; exact ⟨_, i, Tryd.underlying8, rfl, h1, h2⟩
  · cases h; obtain ⟨i, h1, h2⟩ := info_three info9; exact ⟨_, i, Tryd.underlying9, rfl, h1, h2⟩
  · cases h; obtain ⟨i, h1, h2⟩ := info_three info10; exact ⟨_, i, Tryd.underlying10, rfl, h1, h2⟩
  · cases h; obtain ⟨i, h1, h2⟩ := info_three info11; exact ⟨_, i, Tryd.underlying11, rfl, h1, h2⟩
  · cases h; obtain ⟨i, h1, h2⟩ := info_three info12; exact ⟨_, i, Tryd.underlying12, rfl, h1, h2⟩
  · cases h; obtain ⟨i, h1, h2⟩ := info_three info13; exact ⟨_, i, Tryd.underlying13, rfl, h1, h2⟩
  · cases h; obtain ⟨i, h1, h2⟩ := info_three info14; exact ⟨_, i, Tryd.underlying14, rfl, h1, h2⟩
  · cases h; obtain ⟨i, h1, h2⟩ := info_three info15; exact ⟨_, i, Tryd.underlying15, rfl, h1, h2⟩
  · cases h; obtain ⟨i, h1, h2⟩ := info_three info16; exact ⟨_, i, Tryd.underlying16, rfl, h1, h2⟩
  · cases h; obtain ⟨i, h1, h2⟩ := info_three info17; exact ⟨_, i, Tryd.underlying17, rfl, h1, h2⟩
  · cases h; obtain ⟨i, h1, h2⟩ := info_three info18; exact ⟨_, i, Tryd.underlying18, rfl, h1, h2⟩
  · cases h; obtain ⟨i, h1, h2⟩ := info_three info19; exact ⟨_, i, Tryd.underlying19, rfl, h1, h2⟩
  · cases h; obtain ⟨i, h1, h2⟩ := info_three info21; exact ⟨_, i, Tryd.underlying21, rfl, h1, h2⟩
  · cases h; obtain ⟨i, h1, h2⟩ := info_three info22; exact ⟨_, i, Tryd.underlying22, rfl, h1, h2⟩
  · cases h; obtain ⟨i, h1, h2⟩ := info_three info23; exact ⟨_, i, Tryd.underlying23, rfl, h1, h2⟩
  · cases h; obtain ⟨i, h1, h2⟩ := info_three info25; exact ⟨_, i, Tryd.underlying25, rfl, h1, h2⟩
  · cases h; obtain ⟨i, h1, h2⟩ := info_three info26; exact ⟨_, i, Tryd.underlying26, rfl, h1, h2⟩
  · cases h; obtain ⟨i, h1, h2⟩ := info_three info27; exact ⟨_, i, Tryd.underlying27, rfl, h1, h2⟩
  · cases h; obtain ⟨i, h1, h2⟩ := info_three info29; exact ⟨_, i, Tryd.underlying29, rfl, h1, h2⟩
  · cases h; obtain ⟨i, h1, h2⟩ := info_three info30; exact ⟨_, i, Tryd.underlying30, rfl, h1, h2⟩
  · cases h; obtain ⟨i, h1, h2⟩ := info_three info31; exact ⟨_, i, Tryd.underlying31, rfl, h1, h2⟩
  · cases h; obtain ⟨i, h1, h2⟩ := info_three info32; exact ⟨_, i, Tryd.underlying32, rfl, h1, h2⟩
  · cases h; obtain ⟨i, h1, h2⟩ := info_three info33; exact ⟨_, i, Tryd.underlying33, rfl, h1, h2⟩
  · cases h; obtain ⟨i, h1, h2⟩ := info_three info34; exact ⟨_, i, Tryd.underlying34, rfl, h1, h2⟩
  · cases h; obtain ⟨i, h1, h2⟩ := info_three info35; exact ⟨_, i, Tryd.underlying35, rfl, h1, h2⟩
  · cases h; obtain ⟨i, h1, h2⟩ := info_three info36; exact ⟨_, i, Tryd.underlying36, rfl, h1, h2⟩
  · cases h; obtain ⟨i, h1, h2⟩ := info_three info37; exact ⟨_, i, Tryd.underlying37, rfl, h1, h2⟩
  · cases h; obtain ⟨i, h1, h2⟩ := info_three info38; exact ⟨_, i, Tryd.underlying38, rfl, h1, h2⟩
  · cases h; obtain ⟨i, h1, h2⟩ := info_three info39; exact ⟨_, i, Tryd.underlying39, rfl, h1, h2⟩
  · cases h; obtain ⟨i, h1, h2⟩ := info_three info41; exact ⟨_, i, Tryd.underlying41, rfl, h1, h2⟩
  · cases h; obtain ⟨i, h1, h2⟩ := info_three info42; exact ⟨_, i, Tryd.underlying42, rfl, h1, h2⟩
  · cases h; obtain ⟨i, h1, h2⟩ := info_three info44; exact ⟨_, i, Tryd.underlying44, rfl, h1, h2⟩
  · cases h; obtain ⟨i, h1, h2⟩ := info_three info45; exact ⟨_, i, Tryd.underlying45, rfl, h1, h2⟩
  · cases h; obtain ⟨i, h1, h2⟩ := info_three info46; exact ⟨_, i, Tryd.underlying46, rfl, h1, h2⟩
  · cases h; obtain ⟨i, h1, h2⟩ := info_three info47; exact ⟨_, i, Tryd.underlying47, rfl, h1, h2⟩
  · cases h; obtain ⟨i, h1, h2⟩ := info_three info48; exact ⟨_, i, Tryd.underlying48, rfl, h1, h2⟩
  · cases h; obtain ⟨i, h1, h2⟩ := info_three info49; exact ⟨_, i, Tryd.underlying49, rfl, h1, h2⟩
  · cases h; obtain ⟨i, h1, h2⟩ := info_three info50; exact ⟨_, i, Tryd.underlying50, rfl, h1, h2⟩
  · cases h; obtain ⟨i, h1, h2⟩ := info_three info51; exact ⟨_, i, Tryd.underlying51, rfl, h1, h2⟩
  · cases h; obtain ⟨i, h1, h2⟩ := info_three info52; exact ⟨_, i, Tryd.underlying52, rfl, h1, h2⟩
  · cases h; obtain ⟨i, h1, h2⟩ := info_three info53; exact ⟨_, i, Tryd.underlying53, rfl, h1, h2⟩
  · cases h; obtain ⟨i, h1, h2⟩ := info_three info54; exact ⟨_, i, Tryd.underlying54, rfl, h1, h2⟩
  · cases h; obtain ⟨i, h1, h2⟩ := info_three info56; exact ⟨_, i, Tryd.underlying56, rfl, h1, h2⟩
  · cases h; obtain ⟨i, h1, h2⟩ := info_three info57; exact ⟨_, i, Tryd.underlying57, rfl, h1, h2⟩
  · cases h; obtain ⟨i, h1, h2⟩ := info_three info58; exact ⟨_, i, Tryd.underlying58, rfl, h1, h2⟩
  · cases h; obtain ⟨i, h1, h2⟩ := info_three info59; exact ⟨_, i, Tryd.underlying59, rfl, h1, h2⟩
  · cases h; obtain ⟨i, h1, h2⟩ := info_three info60; exact ⟨_, i, Tryd.underlying60, rfl, h1, h2⟩
  · cases h; obtain ⟨i, h1, h2⟩ := info_three info61; exact ⟨_, i, Tryd.underlying61, rfl, h1, h2⟩
  · cases h; obtain ⟨i, h1, h2⟩ := info_three info62; exact ⟨_, i, Tryd.underlying62, rfl, h1, h2⟩
  · cases h; obtain ⟨i, h1, h2⟩ := info_three info63; exact ⟨_, i, Tryd.underlying63, rfl, h1, h2⟩
  · cases h; obtain ⟨i, h1, h2⟩ := info_three info64; exact ⟨_, i, Tryd.underlying64, rfl, h1, h2⟩
  · cases h; obtain ⟨i, h1, h2⟩ := info_three info65; exact ⟨_, i, Tryd.underlying65, rfl, h1, h2⟩
  · cases h; obtain ⟨i, h1, h2⟩ := info_three info67; exact ⟨_, i, Tryd.underlying67, rfl, h1, h2⟩
  · cases h; obtain ⟨i, h1, h2⟩ := info_three info68; exact ⟨_, i, Tryd.underlying68, rfl, h1, h2⟩
  · cases h; obtain ⟨i, h1, h2⟩ := info_three info69; exact ⟨_, i, Tryd.underlying69, rfl, h1, h2⟩
  · cases h; obtain ⟨i, h1, h2⟩ := info_three info73; exact ⟨_, i, Tryd.underlying73, rfl, h1, h2⟩
  · cases h; obtain ⟨i, h1, h2⟩ := info_three info74; exact ⟨_, i, Tryd.underlying74, rfl, h1, h2⟩
  · cases h; obtain ⟨i, h1, h2⟩ := info_three info75; exact ⟨_, i, Tryd.underlying75, rfl, h1, h2⟩
  · cases h; obtain ⟨i, h1, h2⟩ := info_three info76; exact ⟨_, i, Tryd.underlying76, rfl, h1, h2⟩
  · cases h; obtain ⟨i, h1, h2⟩ := info_three info77; exact ⟨_, i, Tryd.underlying77, rfl, h1, h2⟩
  · cases h; obtain ⟨i, h1, h2⟩ := info_three info78; exact ⟨_, i, Tryd.underlying78, rfl, h1, h2⟩
  · cases h; obtain ⟨i, h1, h2⟩ := info_three info79; exact ⟨_, i, Tryd.underlying79, rfl, h1, h2⟩
  · cases h; obtain ⟨i, h1, h2⟩ := info_three info80; exact ⟨_, i, Tryd.underlying80, rfl, h1, h2⟩
  · cases h; obtain ⟨i, h1, h2⟩ := info_three info81; exact ⟨_, i, Tryd.underlying81, rfl, h1, h2⟩
  · cases h; obtain ⟨i, h1, h2⟩ := info_three info82; exact ⟨_, i, Tryd.underlying82, rfl, h1, h2⟩
  · cases h; obtain ⟨i, h1, h2⟩ := info_three info83; exact ⟨_, i, Tryd.underlying83, rfl, h1, h2⟩
  · cases h; obtain ⟨i, h1, h2⟩ := info_three info84; exact ⟨_, i, Tryd.underlying84, rfl, h1, h2⟩
  · cases h; obtain ⟨i, h1, h2⟩ := info_three info85; exact ⟨_, i, Tryd.underlying85, rfl, h1, h2⟩
  · cases h; obtain ⟨i, h1, h2⟩ := info_three info87; exact ⟨_, i, Tryd.underlying87, rfl, h1, h2⟩
  · cases h; obtain ⟨i, h1, h2⟩ := info_three info88; exact ⟨_, i, Tryd.underlying88, rfl, h1, h2⟩
  · cases h; obtain ⟨i, h1, h2⟩ := info_three info89; exact ⟨_, i, Tryd.underlying89, rfl, h1, h2⟩
  · cases h; obtain ⟨i, h1, h2⟩ := info_three info90; exact ⟨_, i, Tryd.underlying90, rfl, h1, h2⟩
  · cases h; obtain ⟨i, h1, h2⟩ := info_three info91; exact ⟨_, i, Tryd.underlying91, rfl, h1, h2⟩
  · cases h; obtain ⟨i, h1, h2⟩ := info_three info92; exact ⟨_, i, Tryd.underlying92, rfl, h1, h2⟩
  · cases h; obtain ⟨i, h1, h2⟩ := info_three info93; exact ⟨_, i, Tryd.underlying93, rfl, h1, h2⟩
  · cases h; obtain ⟨i, h1, h2⟩ := info_three info94; exact ⟨_, i, Tryd.underlying94, rfl, h1, h2⟩
  · cases h; obtain ⟨i, h1, h2⟩ := info_three info95; exact ⟨_, i, Tryd.underlying95, rfl, h1, h2⟩
  · cases h; obtain ⟨i, h1, h2⟩ := info_three info96; exact ⟨_, i, Tryd.underlying96, rfl, h1, h2⟩
  · cases h; obtain ⟨i, h1, h2⟩ := info_three info97; exact ⟨_, i, Tryd.underlying97, rfl, h1, h2⟩
  · cases h; obtain ⟨i, h1, h2⟩ := info_three info98; exact ⟨_, i, Tryd.underlying98, rfl, h1, h2⟩
  · cases h; obtain ⟨i, h1, h2⟩ := info_three info99; exact ⟨_, i, Tryd.underlying99, rfl, h1, h2⟩
  · cases h; obtain ⟨i, h1, h2⟩ := info_three info100; exact ⟨_, i, Tryd.underlying100, rfl, h1, h2⟩
  · cases h; obtain ⟨i, h1, h2⟩ := info_three info101; exact ⟨_, i, Tryd.underlying101, rfl, h1, h2⟩
  · cases h; obtain ⟨i, h1, h2⟩ := info_three info102; exact ⟨_, i, Tryd.underlying102, rfl, h1, h2⟩
  · cases h; obtain ⟨i, h1, h2⟩ := info_three info103; exact ⟨_, i, Tryd.underlying103, rfl, h1, h2⟩
  · cases h; obtain ⟨i, h1, h2⟩ := info_three info104; exact ⟨_, i, Tryd.underlying104, rfl, h1, h2⟩
  · cases h; obtain ⟨i, h1, h2⟩ := info_three info105; exact ⟨_, i, Tryd.underlying105, rfl, h1, h2⟩
  · cases h; obtain ⟨i, h1, h2⟩ := info_three info106; exact ⟨_, i, Tryd.underlying106, rfl, h1, h2⟩
  · cases h; obtain ⟨i, h1, h2⟩ := info_three info107; exact ⟨_, i, Tryd.underlying107, rfl, h1, h2⟩
  · cases h; obtain ⟨i, h1, h2⟩ := info_three info108; exact ⟨_, i, Tryd.underlying108, rfl, h1, h2⟩
  · cases h; obtain ⟨i, h1, h2⟩ := info_three info109; exact ⟨_, i, Tryd.underlying109, rfl, h1, h2⟩
  · cases h; obtain ⟨i, h1, h2⟩ := info_three info110; exact ⟨_, i, Tryd.underlying110, rfl, h1, h2⟩
  · cases h; obtain ⟨i, h1, h2⟩ := info_three info111; exact ⟨_, i, Tryd.underlying111, rfl, h1, h2⟩
  · cases h; obtain ⟨i, h1, h2⟩ := info_three info113; exact ⟨_, i, Tryd.underlying113, rfl, h1, h2⟩
  · cases h; obtain ⟨i, h1, h2⟩ := info_three info114; exact ⟨_, i, Tryd.underlying114, rfl, h1, h2⟩
  · cases h; obtain ⟨i, h1, h2⟩ := info_three info115; exact ⟨_, i, Tryd.underlying115, rfl, h1, h2⟩
  · cases h; obtain ⟨i, h1, h2⟩ := info_three info116; exact ⟨_, i, Tryd.underlying116, rfl, h1, h2⟩
  · cases h; obtain ⟨i, h1, h2⟩ := info_three info117; exact ⟨_, i, Tryd.underlying117, rfl, h1, h2⟩
  · cases h; obtain ⟨i, h1, h2⟩ := info_three info118; exact ⟨_, i, Tryd.underlying118, rfl, h1, h2⟩
  · cases h; obtain ⟨i, h1, h2⟩ := info_three info120; exact ⟨_, i, Tryd.underlying120, rfl, h1, h2⟩
  · cases h; obtain ⟨i, h1, h2⟩ := info_three info121; exact ⟨_, i, Tryd.underlying121, rfl, h1, h2⟩
  · cases h; obtain ⟨i, h1, h2⟩ := info_three info122; exact ⟨_, i, Tryd.underlying122, rfl, h1, h2⟩
  · cases h; obtain ⟨i, h1, h2⟩ := info_three info124; exact ⟨_, i, Tryd.underlying124, rfl, h1, h2⟩
  · cases h; obtain ⟨i, h1, h2⟩ := info_three info125; exact ⟨_, i, Tryd.underlying125, rfl, h1, h2⟩
  · cases h; obtain ⟨i, h1, h2⟩ := info_three info127; exact ⟨_, i, Tryd.underlying127, rfl, h1, h2⟩
  · cases h; obtain ⟨i, h1, h2⟩ := info_three info128; exact ⟨_, i, Tryd.underlying128, rfl, h1, h2⟩
  · cases h; obtain ⟨i, h1, h2⟩ := info_three info129; exact ⟨_, i, Tryd.underlying129, rfl, h1, h2⟩
  · cases h; obtain ⟨i, h1, h2⟩ := info_three info130; exact ⟨_, i, Tryd.underlying130, rfl, h1, h2⟩
  · cases h; obtain ⟨i, h1, h2⟩ := info_three info131; exact ⟨_, i, Tryd.underlying131, rfl, h1, h2⟩
  · cases h; obtain ⟨i, h1, h2⟩ := info_three info132; exact ⟨_, i, Tryd.underlying132, rfl, h1, h2⟩
  · cases h; obtain ⟨i, h1, h2⟩ := info_three info133; exact ⟨_, i, Tryd.underlying133, rfl, h1, h2⟩
  · cases h; obtain ⟨i, h1, h2⟩ := info_three info134; exact ⟨_, i, Tryd.underlying134, rfl, h1, h2⟩
  · cases h; obtain ⟨i, h1, h2⟩ := info_three info135; exact ⟨_, i, Tryd.underlying135, rfl, h1, h2⟩
  · cases h; obtain ⟨i, h1, h2⟩ := info_three info136; exact ⟨_, i, Tryd.underlying136, rfl, h1, h2⟩
  · cases h; obtain ⟨i, h1, h2⟩ := info_three info137; exact ⟨_, i, Tryd.underlying137, rfl, h1, h2⟩
  · cases h; obtain ⟨i, h1, h2⟩ := info_three info138; exact ⟨_, i, Tryd.underlying138, rfl, h1, h2⟩
  · cases h; obtain ⟨i, h1, h2⟩ := info_three info140; exact ⟨_, i, Tryd.underlying140, rfl, h1, h2⟩
  · cases h; obtain ⟨i, h1, h2⟩ := info_three info142; exact ⟨_, i, Tryd.underlying142, rfl, h1, h2⟩
  · cases h; obtain ⟨i, h1, h2⟩ := info_three info143; exact ⟨_, i, Tryd.underlying143, rfl, h1, h2⟩
  · cases h; obtain ⟨i, h1, h2⟩ := info_three info144; exact ⟨_, i, Tryd.underlying144, rfl, h1, h2⟩
  · cases h; obtain ⟨i, h1, h2⟩ := info_three info145; exact ⟨_, i, Tryd.underlying145, rfl, h1, h2⟩
  · cases h; obtain ⟨i, h1, h2⟩ := info_three info146; exact ⟨_, i, Tryd.underlying146, rfl, h1, h2⟩
  · cases h; obtain ⟨i, h1, h2⟩ := info_three info147; exact ⟨_, i, Tryd.underlying147, rfl, h1, h2⟩
  · cases h; obtain ⟨i, h1, h2⟩ := info_three info148; exact ⟨_, i, Tryd.underlying148, rfl, h1, h2⟩
  · cases h; obtain ⟨i, h1, h2⟩ := info_three info149; exact ⟨_, i, Tryd.underlying149, rfl, h1, h2⟩
  · cases h; obtain ⟨i, h1, h2⟩ := info_three info151; exact ⟨_, i, Tryd.underlying151, rfl, h1, h2⟩
  · cases h; obtain ⟨i, h1, h2⟩ := info_three info152; exact ⟨_, i, Tryd.underlying152, rfl, h1, h2⟩
  · cases h; obtain ⟨i, h1, h2⟩ := info_three info153; exact ⟨_, i, Tryd.underlying153, rfl, h1, h2⟩
  · cases h; obtain ⟨i, h1, h2⟩ := info_three info155; exact ⟨_, i, Tryd.underlying155, rfl, h1, h2⟩
  · cases h; obtain ⟨i, h1, h2⟩ := info_three info156; exact ⟨_, i, Tryd.underlying156, rfl, h1, h2⟩
  · cases h; obtain ⟨i, h1, h2⟩ := info_three info157; exact ⟨_, i, Tryd.underlying157, rfl, h1, h2⟩
  · cases h; obtain ⟨i, h1, h2⟩ := info_three info158; exact ⟨_, i, Tryd.underlying158, rfl, h1, h2⟩
  · cases h; obtain ⟨i, h1, h2⟩ := info_three info159; exact ⟨_, i, Tryd.underlying159, rfl, h1, h2⟩
  · cases h; obtain ⟨i, h1, h2⟩ := info_three info161; exact ⟨_, i, Tryd.underlying161, rfl, h1, h2⟩
  · cases h; obtain ⟨i, h1, h2⟩ := info_three info165; exact ⟨_, i, Tryd.underlying165, rfl, h1, h2⟩
  · cases h; obtain ⟨i, h1, h2⟩ := info_three info166; exact ⟨_, i, Tryd.underlying166, rfl, h1, h2⟩
  · cases h; obtain ⟨i, h1, h2⟩ := info_three info168; exact ⟨_, i, Tryd.underlying168, rfl, h1, h2⟩
  · cases h; obtain ⟨i, h1, h2⟩ := info_three info169; exact ⟨_, i, Tryd.underlying169, rfl, h1, h2⟩
  · cases h; obtain ⟨i, h1, h2⟩ := info_three info173; exact ⟨_, i, Tryd.underlying173, rfl, h1, h2⟩
  · cases h; obtain ⟨i, h1, h2⟩ := info_three info174; exact ⟨_, i, Tryd.underlying174, rfl, h1, h2⟩
  · cases h; obtain ⟨i, h1, h2⟩ := info_three info175; exact ⟨_, i, Tryd.underlying175, rfl, h1, h2⟩
  · cases h; obtain ⟨i, h1, h2⟩ := info_three info176; exact ⟨_, i, Tryd.underlying176, rfl, h1, h2⟩
  · cases h; obtain ⟨i, h1, h2⟩ := info_three info177; exact ⟨_, i, Tryd.underlying177, rfl, h1, h2⟩
  · cases h; obtain ⟨i, h1, h2⟩ := info_three info178; exact ⟨_, i, Tryd.underlying178, rfl, h1, h2⟩
  · cases h; obtain ⟨i, h1, h2⟩ := info_three info179; exact ⟨_, i, Tryd.underlying179, rfl, h1, h2⟩
  · cases h; obtain ⟨i, h1, h2⟩ := info_three info180; exact ⟨_, i, Tryd.underlying180, rfl, h1, h2⟩
  · cases h; obtain ⟨i, h1, h2⟩ := info_three info181; exact ⟨_, i, Tryd.underlying181, rfl, h1, h2⟩
  · cases h
theorem env_fld : ∀ t f o, eFld t f = some o → ∃ fs fl i, Tryd.prog.underlying t = some (.struct fs) ∧ fs[f]? = some fl ∧ fl.offset = o ∧ Tryd.prog.info? fl.type = some i ∧ i.size ≠ 0 := by
  intro t f o h
  unfold eFld at h
  split at h
  · cases h; obtain ⟨i, h1, h2⟩ := info_three info46; exact ⟨_, _, i, Tryd.underlying48, rfl, rfl, h1, by rw [h2]; decide⟩
  · cases h; obtain ⟨i, h1, h2⟩ := info_three info46; exact ⟨_, _, i, Tryd.underlying51, rfl, rfl, h1, by rw [h2]; decide⟩
  · cases h; obtain ⟨i, h1, h2⟩ := info_three info27; exact ⟨_, _, i, Tryd.underlying59, rfl, rfl, h1, by rw [h2]; decide⟩
  · cases h; obtain ⟨i, h1, h2⟩ := info_three info27; exact ⟨_, _, i, Tryd.underlying59, rfl, rfl, h1, by rw [h2]; decide⟩
  · cases h; obtain ⟨i, h1, h2⟩ := info_three info27; exact ⟨_, _, i, Tryd.underlying62, rfl, rfl, h1, by rw [h2]; decide⟩
  · cases h; obtain ⟨i, h1, h2⟩ := info_three info27; exact ⟨_, _, i, Tryd.underlying62, rfl, rfl, h1, by rw [h2]; decide⟩
  · cases h; obtain ⟨i, h1, h2⟩ := info_three info2; exact ⟨_, _, i, Tryd.underlying80, rfl, rfl, h1, by rw [h2]; decide⟩
  · cases h; obtain ⟨i, h1, h2⟩ := info_three info2; exact ⟨_, _, i, Tryd.underlying80, rfl, rfl, h1, by rw [h2]; decide⟩
  · cases h; obtain ⟨i, h1, h2⟩ := info_three info2; exact ⟨_, _, i, Tryd.underlying82, rfl, rfl, h1, by rw [h2]; decide⟩
  · cases h; obtain ⟨i, h1, h2⟩ := info_three info2; exact ⟨_, _, i, Tryd.underlying82, rfl, rfl, h1, by rw [h2]; decide⟩
  · cases h
theorem env_zero : ∀ t cs, eZero t = some cs → ∃ i z, Tryd.prog.info? t = some i ∧ i.zero = some z ∧ z.cells.toList = cs := by
  intro t cs h
  unfold eZero at h
  split at h
  · cases h; obtain ⟨i, h1, h2, _⟩ := info_parts info1; exact ⟨i, _, h1, h2, rfl⟩
  · cases h; obtain ⟨i, h1, h2, _⟩ := info_parts info2; exact ⟨i, _, h1, h2, rfl⟩
  · cases h; obtain ⟨i, h1, h2, _⟩ := info_parts info3; exact ⟨i, _, h1, h2, rfl⟩
  · cases h; obtain ⟨i, h1, h2, _⟩ := info_parts info4; exact ⟨i, _, h1, h2, rfl⟩
  · cases h; obtain ⟨i, h1, h2, _⟩ := info_parts info5; exact ⟨i, _, h1, h2, rfl⟩
  · cases h; obtain ⟨i, h1, h2, _⟩ := info_parts info6; exact ⟨i, _, h1, h2, rfl⟩
  · cases h; obtain ⟨i, h1, h2, _⟩ := info_parts info7; exact ⟨i, _, h1, h2, rfl⟩
  · cases h; obtain ⟨i, h1, h2, _⟩ := info_parts info8; exact ⟨i, _, h1, h2, rfl⟩
  · cases h; obtain ⟨i, h1, h2, _⟩ := info_parts info9; exact ⟨i, _, h1, h2, rfl⟩
  · cases h; obtain ⟨i, h1, h2, _⟩ := info_parts info10; exact ⟨i, _, h1, h2, rfl⟩
  · cases h; obtain ⟨i, h1, h2, _⟩ := info_parts info11; exact ⟨i, _, h1, h2, rfl⟩
  · cases h; obtain ⟨i, h1, h2, _⟩ := info_parts info12; exact ⟨i, _, h1, h2, rfl⟩
  · cases h; obtain ⟨i, h1, h2, _⟩ := info_parts info13; exact ⟨i, _, h1, h2, rfl⟩
  · cases h; obtain ⟨i, h1, h2, _⟩ := info_parts info14; exact ⟨i, _, h1, h2, rfl⟩
  · cases h; obtain ⟨i, h1, h2, _⟩ := info_parts info15; exact ⟨i, _, h1, h2, rfl⟩
  · cases h; obtain ⟨i, h1, h2, _⟩ := info_parts info16; exact ⟨i, _, h1, h2, rfl⟩
  · cases h; obtain ⟨i, h1, h2, _⟩ := info_parts info17; exact ⟨i, _, h1, h2, rfl⟩
  · cases h; obtain ⟨i, h1, h2, _⟩ := info_parts info18; exact ⟨i, _, h1, h2, rfl⟩
  · cases h; obtain ⟨i, h1, h2, _⟩ := info_parts info19; exact ⟨i, _, h1, h2, rfl⟩
  · cases h; obtain ⟨i, h1, h2, _⟩ := info_parts info21; exact ⟨i, _, h1, h2, rfl⟩
  · cases h; obtain ⟨i, h1, h2, _⟩ := info_parts info22; exact ⟨i, _, h1, h2, rfl⟩
  · cases h; obtain ⟨i, h1, h2, _⟩ := info_parts info23; exact ⟨i, _, h1, h2, rfl⟩
  · cases h; obtain ⟨i, h1, h2, _⟩ := info_parts info25; exact ⟨i, _, h1, h2, rfl⟩
  · cases h; obtain ⟨i, h1, h2, _⟩ := info_parts info26; exact ⟨i, _, h1, h2, rfl⟩
  · cases h; obtain ⟨i, h1, h2, _⟩ := info_parts info27; exact ⟨i, _, h1, h2, rfl⟩
  · cases h; obtain ⟨i, h1, h2, _⟩ := info_parts info29; exact ⟨i, _, h1, h2, rfl⟩
  · cases h; obtain ⟨i, h1, h2, _⟩ := info_parts info30; exact ⟨i, _, h1, h2, rfl⟩
  · cases h; obtain ⟨i, h1, h2, _⟩ := info_parts info31; exact ⟨i, _, h1, h2, rfl⟩
  · cases h; obtain ⟨i, h1, h2, _⟩ := info_parts info32; exact ⟨i, _, h1, h2, rfl⟩
  · cases h; obtain ⟨i, h1, h2, _⟩ := info_parts info33; exact ⟨i, _, h1, h2, rfl⟩
  · cases h; obtain ⟨i, h1, h2, _⟩ := info_parts info34; exact ⟨i, _, h1, h2, rfl⟩
  · cases h; obtain ⟨i, h1, h2, _⟩ := info_parts info35; exact ⟨i, _, h1, h2, rfl⟩
  · cases h; obtain ⟨i, h1, h2, _⟩ := info_parts info36; exact ⟨i, _, h1, h2, rfl⟩
  · cases h; obtain ⟨i, h1, h2, _⟩ := info_parts info37; exact ⟨i, _, h1, h2, rfl⟩
  · cases h; obtain ⟨i, h1, h2, _⟩ := info_parts info38; exact ⟨i, _, h1, h2, rfl⟩
  · cases h; obtain ⟨i, h1, h2, _⟩ := info_parts info39; exact ⟨i, _, h1, h2, rfl⟩
  · cases h; obtain ⟨i, h1, h2, _⟩ := info_parts info41; exact ⟨i, _, h1, h2, rfl⟩
  · cases h; obtain ⟨i, h1, h2, _⟩ := info_parts info42; exact ⟨i, _, h1, h2, rfl⟩
  · cases h; obtain ⟨i, h1, h2, _⟩ := info_parts info44; exact ⟨i, _, h1, h2, rfl⟩
  · cases h; obtain ⟨i, h1, h2, _⟩ := info_parts info45; exact ⟨i, _, h1, h2, rfl⟩
  · cases h; obtain ⟨i, h1, h2, _⟩ := info_parts info46; exact ⟨i, _, h1, h2, rfl⟩
  · cases h; obtain ⟨i, h1, h2, _⟩ := info_parts info47; exact ⟨i, _, h1, h2, rfl⟩
  · cases h; obtain ⟨i, h1, h2, _⟩ := info_parts info48; exact ⟨i, _, h1, h2, rfl⟩
  · cases h; obtain ⟨i, h1, h2, _⟩ := info_parts info49; exact ⟨i, _, h1, h2, rfl⟩
  · cases h; obtain ⟨i, h1, h2, _⟩ := info_parts info50; exact ⟨i, _, h1, h2, rfl⟩
  · cases h; obtain ⟨i, h1, h2, _⟩ := info_parts info51; exact ⟨i, _, h1, h2, rfl⟩
  · cases h; obtain ⟨i, h1, h2, _⟩ := info_parts info52; exact ⟨i, _, h1, h2, rfl⟩
  · cases h; obtain ⟨i, h1, h2, _⟩ := info_parts info53; exact ⟨i, _, h1, h2, rfl⟩
  · cases h; obtain ⟨i, h1, h2, _⟩ := info_parts info54; exact ⟨i, _, h1, h2, rfl⟩
  · cases h; obtain ⟨i, h1, h2, _⟩ := info_parts info56; exact ⟨i, _, h1, h2, rfl⟩
  · cases h; obtain ⟨i, h1, h2, _⟩ := info_parts info57; exact ⟨i, _, h1, h2, rfl⟩
  · cases h; obtain ⟨i, h1, h2, _⟩ := info_parts info58; exact ⟨i, _, h1, h2, rfl⟩
  · cases h; obtain ⟨i, h1, h2, _⟩ := info_parts info59; exact ⟨i, _, h1, h2, rfl⟩
  · cases h; obtain ⟨i, h1, h2, _⟩ := info_parts info60; exact ⟨i, _, h1, h2, rfl⟩
  · cases h; obtain ⟨i, h1, h2, _⟩ := info_parts info61; exact ⟨i, _, h1, h2, rfl⟩
  · cases h; obtain ⟨i, h1, h2, _⟩ := info_parts info62; exact ⟨i, _, h1, h2, rfl⟩
  · cases h; obtain ⟨i, h1, h2, _⟩ := info_parts info63; exact ⟨i, _, h1, h2, rfl⟩
  · cases h; obtain ⟨i, h1, h2, _⟩ := info_parts info64; exact ⟨i, _, h1, h2, rfl⟩
  · cases h; obtain ⟨i, h1, h2, _⟩ := info_parts info65; exact ⟨i, _, h1, h2, rfl⟩
  · cases h; obtain ⟨i, h1, h2, _⟩ := info_parts info67; exact ⟨i, _, h1, h2, rfl⟩
  · cases h; obtain ⟨i, h1, h2, _⟩ := info_parts info68; exact ⟨i, _, h1, h2, rfl⟩
  · cases h; obtain ⟨i, h1, h2, _⟩ := info_parts info69; exact ⟨i, _, h1, h2, rfl⟩
  · cases h; obtain ⟨i, h1, h2, _⟩ := info_parts info73; exact ⟨i, _, h1, h2, rfl⟩
  · cases h; obtain ⟨i, h1, h2, _⟩ := info_parts info74; exact ⟨i, _, h1, h2, rfl⟩
  · cases h; obtain ⟨i, h1, h2, _⟩ := info_parts info75; exact ⟨i, _, h1, h2, rfl⟩
  · cases h; obtain ⟨i, h1, h2, _⟩ := info_parts info76; exact ⟨i, _, h1, h2, rfl⟩
  · cases h; obtain ⟨i, h1, h2, _⟩ := info_parts info77; exact ⟨i, _, h1, h2, rfl⟩
  · cases h; obtain ⟨i, h1, h2, _⟩ := info_parts info78; exact ⟨i, _, h1, h2, rfl⟩
  · cases h; obtain ⟨i, h1, h2, _⟩ := info_parts info79; exact ⟨i, _, h1, h2, rfl⟩
  · cases h; obtain ⟨i, h1, h2, _⟩ := info_parts info80; exact ⟨i, _, h1, h2, rfl⟩
  · cases h; obtain ⟨i, h1, h2, _⟩ := info_parts info81; exact ⟨i, _, h1, h2, rfl⟩
  · cases h; obtain ⟨i, h1, h2, _⟩ := info_parts info82; exact ⟨i, _, h1, h2, rfl⟩
  · cases h; obtain ⟨i, h1, h2, _⟩ := info_parts info83; exact ⟨i, _, h1, h2, rfl⟩
  · cases h; obtain ⟨i, h1, h2, _⟩ := info_parts info84; exact ⟨i, _, h1, h2, rfl⟩
  · cases h; obtain ⟨i, h1, h2, _⟩ := info_parts info85; exact ⟨i, _, h1, h2, rfl⟩
  · cases h; obtain ⟨i, h1, h2, _⟩ := info_parts info87; exact ⟨i, _, h1, h2, rfl⟩
  · cases h; obtain ⟨i, h1, h2, _⟩ := info_parts info88; exact ⟨i, _, h1, h2, rfl⟩
  · cases h; obtain ⟨i, h1, h2, _⟩ := info_parts info89; exact ⟨i, _, h1, h2, rfl⟩
  · cases h; obtain ⟨i, h1, h2, _⟩ := info_parts info90; exact ⟨i, _, h1, h2, rfl⟩
  · cases h; obtain ⟨i, h1, h2, _⟩ := info_parts info91; exact ⟨i, _, h1, h2, rfl⟩
  · cases h; obtain ⟨i, h1, h2, _⟩ := info_parts info92; exact ⟨i, _, h1, h2, rfl⟩
  · cases h; obtain ⟨i, h1, h2, _⟩ := info_parts info93; exact ⟨i, _, h1, h2, rfl⟩
  · cases h; obtain ⟨i, h1, h2, _⟩ := info_parts info94; exact ⟨i, _, h1, h2, rfl⟩
  · cases h; obtain ⟨i, h1, h2, _⟩ := info_parts info95; exact ⟨i, _, h1, h2, rfl⟩
  · cases h; obtain ⟨i, h1, h2, _⟩ := info_parts info96; exact ⟨i, _, h1, h2, rfl⟩
  · cases h; obtain ⟨i, h1, h2, _⟩ := info_parts info97; exact ⟨i, _, h1, h2, rfl⟩
  · cases h; obtain ⟨i, h1, h2, _⟩ := info_parts info98; exact ⟨i, _, h1, h2, rfl⟩
  · cases h; obtain ⟨i, h1, h2, _⟩ := info_parts info99; exact ⟨i, _, h1, h2, rfl⟩
  · cases h; obtain ⟨i, h1, h2, _⟩ := info_parts info100; exact ⟨i, _, h1, h2, rfl⟩
  · cases h; obtain ⟨i, h1, h2, _⟩ := info_parts info101; exact ⟨i, _, h1, h2, rfl⟩
  · cases h; obtain ⟨i, h1, h2, _⟩ := info_parts info102; exact ⟨i, _, h1, h2, rfl⟩
  · cases h; obtain ⟨i, h1, h2, _⟩ := info_parts info103; exact ⟨i, _, h1, h2, rfl⟩
  · cases h; obtain ⟨i, h1, h2, _⟩ := info_parts info104; exact ⟨i, _, h1, h2, rfl⟩
  · cases h; obtain ⟨i, h1, h2, _⟩ := info_parts info105; exact ⟨i, _, h1, h2, rfl⟩
  · cases h; obtain ⟨i, h1, h2, _⟩ := info_parts info106; exact ⟨i, _, h1, h2, rfl⟩
  · cases h; obtain ⟨i, h1, h2, _⟩ := info_parts info107; exact ⟨i, _, h1, h2, rfl⟩
  · cases h; obtain ⟨i, h1, h2, _⟩ := info_parts info108; exact ⟨i, _, h1, h2, rfl⟩
  · cases h; obtain ⟨i, h1, h2, _⟩ := info_parts info109; exact ⟨i, _, h1, h2, rfl⟩
  · cases h; obtain ⟨i, h1, h2, _⟩ := info_parts info110; exact ⟨i, _, h1, h2, rfl⟩
  · cases h; obtain ⟨i, h1, h2, _⟩ := info_parts info111; exact ⟨i, _, h1, h2, rfl⟩
  · cases h; obtain ⟨i, h1, h2, _⟩ := info_parts info113; exact ⟨i, _, h1, h2, rfl⟩
  · cases h; obtain ⟨i, h1, h2, _⟩ := info_parts info114; exact ⟨i, _, h1, h2, rfl⟩
  · cases h; obtain ⟨i, h1, h2, _⟩ := info_parts info115; exact ⟨i, _, h1, h2, rfl⟩
  · cases h; obtain ⟨i, h1, h2, _⟩ := info_parts info116; exact ⟨i, _, h1, h2, rfl⟩
  · cases h; obtain ⟨i, h1, h2, _⟩ := info_parts info117; exact ⟨i, _, h1, h2, rfl⟩
  · cases h; obtain ⟨i, h1, h2, _⟩ := info_parts info118; exact ⟨i, _, h1, h2, rfl⟩
  · cases h; obtain ⟨i, h1, h2, _⟩ := info_parts info120; exact ⟨i, _, h1, h2, rfl⟩
  · cases h; obtain ⟨i, h1, h2, _⟩ := info_parts info121; exact ⟨i, _, h1, h2, rfl⟩
  · cases h; obtain ⟨i, h1, h2, _⟩ := info_parts info122; exact ⟨i, _, h1, h2, rfl⟩
  · cases h; obtain ⟨i, h1, h2, _⟩ := info_parts info124; exact ⟨i, _, h1, h2, rfl⟩
  · cases h; obtain ⟨i, h1, h2, _⟩ := info_parts info125; exact ⟨i, _, h1, h2, rfl⟩
  · cases h; obtain ⟨i, h1, h2, _⟩ := info_parts info127; exact ⟨i, _, h1, h2, rfl⟩
  · cases h; obtain ⟨i, h1, h2, _⟩ := info_parts info128; exact ⟨i, _, h1, h2, rfl⟩
  · cases h; obtain ⟨i, h1, h2, _⟩ := info_parts info129; exact ⟨i, _, h1, h2, rfl⟩
  · cases h; obtain ⟨i, h1, h2, _⟩ := info_parts info130; exact ⟨i, _, h1, h2, rfl⟩
  · cases h; obtain ⟨i, h1, h2, _⟩ := info_parts info131; exact ⟨i, _, h1, h2, rfl⟩
  · cases h; obtain ⟨i, h1, h2, _⟩ := info_parts info132; exact ⟨i, _, h1, h2, rfl⟩
  · cases h; obtain ⟨i, h1, h2, _⟩ := info_parts info133; exact ⟨i, _, h1, h2, rfl⟩
  · cases h; obtain ⟨i, h1, h2, _⟩ := info_parts info134; exact ⟨i, _, h1, h2, rfl⟩
  · cases h; obtain ⟨i, h1, h2, _⟩ := info_parts info135; exact ⟨i, _, h1, h2, rfl⟩
  · cases h; obtain ⟨i, h1, h2, _⟩ := info_parts info136; exact ⟨i, _, h1, h2, rfl⟩
  · cases h; obtain ⟨i, h1, h2, _⟩ := info_parts info137; exact ⟨i, _, h1, h2, rfl⟩
  · cases h; obtain ⟨i, h1, h2, _⟩ := info_parts info138; exact ⟨i, _, h1, h2, rfl⟩
  · cases h; obtain ⟨i, h1, h2, _⟩ := info_parts info140; exact ⟨i, _, h1, h2, rfl⟩
  · cases h; obtain ⟨i, h1, h2, _⟩ := info_parts info142; exact ⟨i, _, h1, h2, rfl⟩
  · cases h; obtain ⟨i, h1, h2, _⟩ := info_parts info143; exact ⟨i, _, h1, h2, rfl⟩
  · cases h; obtain ⟨i, h1, h2, _⟩ := info_parts info144; exact ⟨i, _, h1, h2, rfl⟩
  · cases h; obtain ⟨i, h1, h2, _⟩ := info_parts info145; exact ⟨i, _, h1, h2, rfl⟩
  · cases h; obtain ⟨i, h1, h2, _⟩ := info_parts info146; exact ⟨i, _, h1, h2, rfl⟩
  · cases h; obtain ⟨i, h1, h2, _⟩ := info_parts info147; exact ⟨i, _, h1, h2, rfl⟩
  · cases h; obtain ⟨i, h1, h2, _⟩ := info_parts info148; exact ⟨i, _, h1, h2, rfl⟩
  · cases h; obtain ⟨i, h1, h2, _⟩ := info_parts info149; exact ⟨i, _, h1, h2, rfl⟩
  · cases h; obtain ⟨i, h1, h2, _⟩ := info_parts info151; exact ⟨i, _, h1, h2, rfl⟩
  · cases h; obtain ⟨i, h1, h2, _⟩ := info_parts info152; exact ⟨i, _, h1, h2, rfl⟩
  · cases h; obtain ⟨i, h1, h2, _⟩ := info_parts info153; exact ⟨i, _, h1, h2, rfl⟩
  · cases h; obtain ⟨i, h1, h2, _⟩ := info_parts info155; exact ⟨i, _, h1, h2, rfl⟩
  · cases h; obtain ⟨i, h1, h2, _⟩ := info_parts info156; exact ⟨i, _, h1, h2, rfl⟩
  · cases h; obtain ⟨i, h1, h2, _⟩ := info_parts info157; exact ⟨i, _, h1, h2, rfl⟩
  · cases h; obtain ⟨i, h1, h2, _⟩ := info_parts info158; exact ⟨i, _, h1, h2, rfl⟩
  · cases h; obtain ⟨i, h1, h2, _⟩ := info_parts info159; exact ⟨i, _, h1, h2, rfl⟩
  · cases h; obtain ⟨i, h1, h2, _⟩ := info_parts info161; exact ⟨i, _, h1, h2, rfl⟩
  · cases h; obtain ⟨i, h1, h2, _⟩ := info_parts info165; exact ⟨i, _, h1, h2, rfl⟩
  · cases h; obtain ⟨i, h1, h2, _⟩ := info_parts info166; exact ⟨i, _, h1, h2, rfl⟩
  · cases h; obtain ⟨i, h1, h2, _⟩ := info_parts info168; exact ⟨i, _, h1, h2, rfl⟩
  · cases h; obtain ⟨i, h1, h2, _⟩ := info_parts info169; exact ⟨i, _, h1, h2, rfl⟩
  · cases h; obtain ⟨i, h1, h2, _⟩ := info_parts info173; exact ⟨i, _, h1, h2, rfl⟩
  · cases h; obtain ⟨i, h1, h2, _⟩ := info_parts info174; exact ⟨i, _, h1, h2, rfl⟩
  · cases h; obtain ⟨i, h1, h2, _⟩ := info_parts info175; exact ⟨i, _, h1, h2, rfl⟩
  · cases h; obtain ⟨i, h1, h2, _⟩ := info_parts info176; exact ⟨i, _, h1, h2, rfl⟩
  · cases h; obtain ⟨i, h1, h2, _⟩ := info_parts info177; exact ⟨i, _, h1, h2, rfl⟩
  · cases h; obtain ⟨i, h1, h2, _⟩ := info_parts info178; exact ⟨i, _, h1, h2, rfl⟩
  · cases h; obtain ⟨i, h1, h2, _⟩ := info_parts info179; exact ⟨i, _, h1, h2, rfl⟩
  · cases h; obtain ⟨i, h1, h2, _⟩ := info_parts info180; exact ⟨i, _, h1, h2, rfl⟩
  · cases h; obtain ⟨i, h1, h2, _⟩ := info_parts info181; exact ⟨i, _, h1, h2, rfl⟩
  · cases h
theorem env_knd : ∀ t d, eKnd t = some d → Tryd.prog.underlying t = some d := by
  intro t d h
  unfold eKnd at h
  split at h
  · cases h; exact Tryd.underlying2
  · cases h; exact Tryd.underlying3
  · cases h; exact Tryd.underlying4
  · cases h; exact Tryd.underlying5
  · cases h; exact Tryd.underlying6
  · cases h; exact Tryd.underlying9
  · cases h; exact Tryd.underlying10
  · cases h; exact Tryd.underlying11
  · cases h; exact Tryd.underlying12
  · cases h; exact Tryd.underlying21
  · cases h; exact Tryd.underlying120
  · cases h; exact Tryd.underlying125
  · cases h; exact Tryd.underlying128
  · cases h; exact Tryd.underlying140
  · cases h; exact Tryd.underlying174
  · cases h; exact Tryd.underlying175
  · cases h; exact Tryd.underlying177
  · cases h; exact Tryd.underlying178
  · cases h
theorem env_bld : ∀ t l, eBld t = some l → ∀ (parts : Array (Nat × Value)) w, ∃ i z, Tryd.prog.info? t = some i ∧ i.zero = some z ∧
    ∀ cells, Instr.fill (fun k => l[k]?) z.cells parts.toList = some cells → (Instr.build t parts).run Tryd.prog w = .ok (.agg cells) w := by
  intro t l h parts w
  unfold eBld at h
  split at h
  · cases h; obtain ⟨i, h1, h2, _⟩ := info_parts info7; exact ⟨i, _, h1, h2, build_run h1 h2 Tryd.underlying7 (fun w => by kernel_rfl) w⟩
  · cases h; obtain ⟨i, h1, h2, _⟩ := info_parts info8; exact ⟨i, _, h1, h2, build_run h1 h2 Tryd.underlying8 (fun w => by kernel_rfl) w⟩
  · cases h; obtain ⟨i, h1, h2, _⟩ := info_parts info13; exact ⟨i, _, h1, h2, build_run h1 h2 Tryd.underlying13 (fun w => by kernel_rfl) w⟩
  · cases h; obtain ⟨i, h1, h2, _⟩ := info_parts info14; exact ⟨i, _, h1, h2, build_run h1 h2 Tryd.underlying14 (fun w => by kernel_rfl) w⟩
  · cases h; obtain ⟨i, h1, h2, _⟩ := info_parts info18; exact ⟨i, _, h1, h2, build_run h1 h2 Tryd.underlying18 (fun w => by kernel_rfl) w⟩
  · cases h; obtain ⟨i, h1, h2, _⟩ := info_parts info19; exact ⟨i, _, h1, h2, build_run h1 h2 Tryd.underlying19 (fun w => by kernel_rfl) w⟩
  · cases h; obtain ⟨i, h1, h2, _⟩ := info_parts info47; exact ⟨i, _, h1, h2, build_run h1 h2 Tryd.underlying47 (fun w => by kernel_rfl) w⟩
  · cases h; obtain ⟨i, h1, h2, _⟩ := info_parts info48; exact ⟨i, _, h1, h2, build_run h1 h2 Tryd.underlying48 (fun w => by kernel_rfl) w⟩
  · cases h; obtain ⟨i, h1, h2, _⟩ := info_parts info51; exact ⟨i, _, h1, h2, build_run h1 h2 Tryd.underlying51 (fun w => by kernel_rfl) w⟩
  · cases h; obtain ⟨i, h1, h2, _⟩ := info_parts info58; exact ⟨i, _, h1, h2, build_run h1 h2 Tryd.underlying58 (fun w => by kernel_rfl) w⟩
  · cases h; obtain ⟨i, h1, h2, _⟩ := info_parts info59; exact ⟨i, _, h1, h2, build_run h1 h2 Tryd.underlying59 (fun w => by kernel_rfl) w⟩
  · cases h; obtain ⟨i, h1, h2, _⟩ := info_parts info62; exact ⟨i, _, h1, h2, build_run h1 h2 Tryd.underlying62 (fun w => by kernel_rfl) w⟩
  · cases h; obtain ⟨i, h1, h2, _⟩ := info_parts info79; exact ⟨i, _, h1, h2, build_run h1 h2 Tryd.underlying79 (fun w => by kernel_rfl) w⟩
  · cases h; obtain ⟨i, h1, h2, _⟩ := info_parts info80; exact ⟨i, _, h1, h2, build_run h1 h2 Tryd.underlying80 (fun w => by kernel_rfl) w⟩
  · cases h; obtain ⟨i, h1, h2, _⟩ := info_parts info82; exact ⟨i, _, h1, h2, build_run h1 h2 Tryd.underlying82 (fun w => by kernel_rfl) w⟩
  · cases h; obtain ⟨i, h1, h2, _⟩ := info_parts info109; exact ⟨i, _, h1, h2, build_run h1 h2 Tryd.underlying109 (fun w => by kernel_rfl) w⟩
  · cases h; obtain ⟨i, h1, h2, _⟩ := info_parts info110; exact ⟨i, _, h1, h2, build_run h1 h2 Tryd.underlying110 (fun w => by kernel_rfl) w⟩
  · cases h; obtain ⟨i, h1, h2, _⟩ := info_parts info146; exact ⟨i, _, h1, h2, build_run h1 h2 Tryd.underlying146 (fun w => by kernel_rfl) w⟩
  · cases h; obtain ⟨i, h1, h2, _⟩ := info_parts info147; exact ⟨i, _, h1, h2, build_run h1 h2 Tryd.underlying147 (fun w => by kernel_rfl) w⟩
  · cases h; obtain ⟨i, h1, h2, _⟩ := info_parts info158; exact ⟨i, _, h1, h2, build_run h1 h2 Tryd.underlying158 (fun w => by kernel_rfl) w⟩
  · cases h; obtain ⟨i, h1, h2, _⟩ := info_parts info159; exact ⟨i, _, h1, h2, build_run h1 h2 Tryd.underlying159 (fun w => by kernel_rfl) w⟩
  · cases h; obtain ⟨i, h1, h2, _⟩ := info_parts info165; exact ⟨i, _, h1, h2, build_run h1 h2 Tryd.underlying165 (fun w => by kernel_rfl) w⟩
  · cases h; obtain ⟨i, h1, h2, _⟩ := info_parts info166; exact ⟨i, _, h1, h2, build_run h1 h2 Tryd.underlying166 (fun w => by kernel_rfl) w⟩
  · cases h; obtain ⟨i, h1, h2, _⟩ := info_parts info168; exact ⟨i, _, h1, h2, build_run h1 h2 Tryd.underlying168 (fun w => by kernel_rfl) w⟩
  · cases h; obtain ⟨i, h1, h2, _⟩ := info_parts info169; exact ⟨i, _, h1, h2, build_run h1 h2 Tryd.underlying169 (fun w => by kernel_rfl) w⟩
  · cases h; obtain ⟨i, h1, h2, _⟩ := info_parts info179; exact ⟨i, _, h1, h2, build_run h1 h2 Tryd.underlying179 (fun w => by kernel_rfl) w⟩
  · cases h; obtain ⟨i, h1, h2, _⟩ := info_parts info180; exact ⟨i, _, h1, h2, build_run h1 h2 Tryd.underlying180 (fun w => by kernel_rfl) w⟩
  · cases h
theorem env_pts : ∀ t, ePts t = true → ∀ (a b c d : Int) w, (Op.equal t (.agg #[.int .i64 a, .int .i64 b]) (.agg #[.int .i64 c, .int .i64 d])).run Tryd.prog w = .ok (decide (a = c ∧ b = d)) w ∧
    ∀ x y op, (eqGuard op t x y (.agg #[.int .i64 a, .int .i64 b]) (.agg #[.int .i64 c, .int .i64 d])).run Tryd.prog w = .ok () w := by
  intro t h a b c d w
  unfold ePts at h
  split at h
  · exact pts_run Tryd.underlying79 ⟨rfl, by decide, Tryd.underlying2⟩ ⟨rfl, by decide, Tryd.underlying2⟩ (by kernel_rfl) (by kernel_rfl) a b c d w
  · exact pts_run Tryd.underlying80 ⟨rfl, by decide, Tryd.underlying2⟩ ⟨rfl, by decide, Tryd.underlying2⟩ (by kernel_rfl) (by kernel_rfl) a b c d w
  · exact pts_run Tryd.underlying82 ⟨rfl, by decide, Tryd.underlying2⟩ ⟨rfl, by decide, Tryd.underlying2⟩ (by kernel_rfl) (by kernel_rfl) a b c d w
  · cases h
theorem env_mp : ∀ t kk z, eMp t = some (kk, z) → ∃ kt et i, Tryd.prog.underlying t = some (.map kt et) ∧ KeyLaw Tryd.prog kk kt ∧ Tryd.prog.info? et = some i ∧ i.zero = some z := by
  intro t kk z h
  unfold eMp at h
  split at h
  · cases h; obtain ⟨i, h1, h2, _⟩ := info_parts info3; exact ⟨2, 3, i, Tryd.underlying116, (keyLaw_int Tryd.underlying2), h1, h2⟩
  · cases h
theorem env_byt : ∀ t, eByt t = true → ∃ et, Tryd.prog.underlying t = some (.slice et) ∧ Tryd.prog.underlying et = some (.int .u8) := by
  intro t h
  unfold eByt at h
  split at h
  · exact ⟨_, Tryd.underlying101, Tryd.underlying5⟩
  · cases h
theorem env_ifc : ∀ t, eIfc t = true → ∃ ms, Tryd.prog.underlying t = some (.interface ms) := by
  intro t h
  unfold eIfc at h
  split at h
  · exact ⟨_, Tryd.underlying20⟩
  · exact ⟨_, Tryd.underlying70⟩
  · exact ⟨_, Tryd.underlying71⟩
  · cases h
theorem mixed : Tryd.prog.follows .mixedOrders = true := by kernel_rfl
theorem envOk : EnvOk Tryd.prog env := ⟨env_sl, env_var, env_fld, env_zero, env_knd, env_bld, env_pts, env_mp, env_byt, env_ifc⟩
theorem vsl_27 : env.sl 27 = some (.int .i64) := rfl
theorem vsl_46 : env.sl 46 = some (.sli .i64) := rfl
theorem vsl_101 : env.sl 101 = some (.int .u8) := rfl
theorem vkn_27 : env.knd 27 = none := rfl
theorem vkn_46 : env.knd 46 = none := rfl
theorem vkn_101 : env.knd 101 = none := rfl
theorem vvar_1 : env.var 1 = some (false, 1) := rfl
theorem vvar_2 : env.var 2 = some (false, 1) := rfl
theorem vvar_3 : env.var 3 = some (false, 1) := rfl
theorem vvar_4 : env.var 4 = some (false, 1) := rfl
theorem vvar_5 : env.var 5 = some (false, 1) := rfl
theorem vvar_9 : env.var 9 = some (false, 1) := rfl
theorem vvar_23 : env.var 23 = some (false, 1) := rfl
theorem vvar_27 : env.var 27 = some (false, 1) := rfl
theorem vvar_46 : env.var 46 = some (false, 1) := rfl
theorem vvar_51 : env.var 51 = some (true, 1) := rfl
theorem vvar_90 : env.var 90 = some (false, 1) := rfl
theorem vvar_101 : env.var 101 = some (false, 1) := rfl
theorem vfld_51_0 : env.fld 51 0 = some 0 := rfl
theorem vzero_1 : env.zero 1 = some [.nilFunc] := rfl
theorem vzero_2 : env.zero 2 = some [.int .i64 0] := rfl
theorem vzero_3 : env.zero 3 = some [.int .i64 0] := rfl
theorem vzero_4 : env.zero 4 = some [.bool false] := rfl
theorem vzero_5 : env.zero 5 = some [.int .u8 0] := rfl
theorem vzero_9 : env.zero 9 = some [.string ByteArray.empty] := rfl
theorem vzero_23 : env.zero 23 = some [.nilFunc] := rfl
theorem vzero_27 : env.zero 27 = some [.slice none 0 0] := rfl
theorem vzero_46 : env.zero 46 = some [.slice none 0 0] := rfl
theorem vzero_51 : env.zero 51 = some [.slice none 0 0] := rfl
theorem vzero_90 : env.zero 90 = some [.pointer none] := rfl
theorem vzero_101 : env.zero 101 = some [.slice none 0 0] := rfl
theorem vknd_2 : env.knd 2 = some (.int .i64) := rfl
theorem vknd_3 : env.knd 3 = some (.int .i64) := rfl
theorem vknd_4 : env.knd 4 = some (.bool) := rfl
theorem vknd_5 : env.knd 5 = some (.int .u8) := rfl
theorem vknd_9 : env.knd 9 = some (.string) := rfl
theorem vsn_2 : env.sl 2 = none := rfl
theorem vsn_3 : env.sl 3 = none := rfl
theorem vsn_4 : env.sl 4 = none := rfl
theorem vsn_5 : env.sl 5 = none := rfl
theorem vsn_9 : env.sl 9 = none := rfl
theorem vbld_51 : env.bld 51 = some [(0, 1)] := rfl
theorem vbyt_101 : env.byt 101 = true := rfl
def eSl2 : TypeId → Option ETy
  | 27 => some (.int .i64)
  | 33 => some (.pt)
  | 36 => some (.pt)
  | 46 => some (.own .i64)
  | 84 => some (.str)
  | 101 => some (.int .u8)
  | _ => none
def env2 : Env := { sl := eSl2, var := eVar, fld := eFld, zero := eZero, knd := eKnd, bld := eBld, pts := ePts, mp := eMp, byt := eByt, ifc := eIfc }
theorem env_sl2 : ∀ t e, eSl2 t = some e → ∃ et i z, Tryd.prog.underlying t = some (.slice et) ∧ Tryd.prog.info? et = some i ∧ i.size = e.sz ∧ i.zero = some z ∧ z.cells.size = e.sz ∧ i.bytes ≤ 64 ∧
    ∀ j, j < e.sz → (e.enc e.d).getD j .junk = .v (z.cells.toList.getD j undef) ∨ ∃ e', (e.enc e.d).getD j .junk = .rd e' [] ∧ z.cells.toList.getD j undef = .slice none 0 0 := by
  intro t e h
  unfold eSl2 at h
  split at h
  · cases h; exact env_sl 27 _ rfl
  · cases h; exact env_sl 33 _ rfl
  · cases h; exact env_sl 36 _ rfl
  · cases h; obtain ⟨i, h1, h2, h3, h4⟩ := info_parts info27
    exact ⟨27, i, _, Tryd.underlying46, h1, h3, h2, rfl, by rw [h4]; decide, fun j hj => .inl (by rcases j with _ | j <;> first | rfl | (exact absurd hj (by simp [ETy.sz])))⟩
  · cases h; exact env_sl 84 _ rfl
  · cases h; exact env_sl 101 _ rfl
  · cases h
theorem envOk2 : EnvOk Tryd.prog env2 := ⟨env_sl2, env_var, env_fld, env_zero, env_knd, env_bld, env_pts, env_mp, env_byt, env_ifc⟩
theorem wsl_27 : env2.sl 27 = some (.int .i64) := rfl
theorem wsl_46 : env2.sl 46 = some (.own .i64) := rfl
theorem wsl_84 : env2.sl 84 = some (.str) := rfl
theorem wkn_27 : env2.knd 27 = none := rfl
theorem wkn_46 : env2.knd 46 = none := rfl
theorem wkn_84 : env2.knd 84 = none := rfl
theorem wvar_1 : env2.var 1 = some (false, 1) := rfl
theorem wvar_2 : env2.var 2 = some (false, 1) := rfl
theorem wvar_3 : env2.var 3 = some (false, 1) := rfl
theorem wvar_4 : env2.var 4 = some (false, 1) := rfl
theorem wvar_5 : env2.var 5 = some (false, 1) := rfl
theorem wvar_9 : env2.var 9 = some (false, 1) := rfl
theorem wvar_27 : env2.var 27 = some (false, 1) := rfl
theorem wvar_46 : env2.var 46 = some (false, 1) := rfl
theorem wvar_51 : env2.var 51 = some (true, 1) := rfl
theorem wvar_84 : env2.var 84 = some (false, 1) := rfl
theorem wfld_51_0 : env2.fld 51 0 = some 0 := rfl
theorem wzero_1 : env2.zero 1 = some [.nilFunc] := rfl
theorem wzero_2 : env2.zero 2 = some [.int .i64 0] := rfl
theorem wzero_3 : env2.zero 3 = some [.int .i64 0] := rfl
theorem wzero_4 : env2.zero 4 = some [.bool false] := rfl
theorem wzero_5 : env2.zero 5 = some [.int .u8 0] := rfl
theorem wzero_9 : env2.zero 9 = some [.string ByteArray.empty] := rfl
theorem wzero_27 : env2.zero 27 = some [.slice none 0 0] := rfl
theorem wzero_46 : env2.zero 46 = some [.slice none 0 0] := rfl
theorem wzero_51 : env2.zero 51 = some [.slice none 0 0] := rfl
theorem wzero_84 : env2.zero 84 = some [.slice none 0 0] := rfl
theorem wknd_2 : env2.knd 2 = some (.int .i64) := rfl
theorem wknd_3 : env2.knd 3 = some (.int .i64) := rfl
theorem wknd_4 : env2.knd 4 = some (.bool) := rfl
theorem wknd_5 : env2.knd 5 = some (.int .u8) := rfl
theorem wknd_9 : env2.knd 9 = some (.string) := rfl
theorem wsn_2 : env2.sl 2 = none := rfl
theorem wsn_3 : env2.sl 3 = none := rfl
theorem wsn_4 : env2.sl 4 = none := rfl
theorem wsn_5 : env2.sl 5 = none := rfl
theorem wsn_9 : env2.sl 9 = none := rfl
theorem wbld_51 : env2.bld 51 = some [(0, 1)] := rfl
end Go.Proofs.YtlgagjboijkpgaaDoor
end
