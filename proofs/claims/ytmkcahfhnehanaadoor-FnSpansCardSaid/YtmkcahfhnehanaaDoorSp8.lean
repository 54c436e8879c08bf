/- Texts of this seat that the law stands on, put together. No conditions. -/
import Derived.Test.YtmkcahfhnehanaaDoorProg
import Derived.KernelRfl
import Derived.Test.YtmkcahfhnehanaaDoorSp7
section
namespace Go.Proofs.YtmkcahfhnehanaaDoor
open Go.Eng
def eSl : TypeId → Option ETy
  | 22 => some (.int .u8)
  | 24 => some (.int .i64)
  | 41 => some (.sli .i64)
  | 48 => some (.pt)
  | 81 => some (.str)
  | 154 => some (.int .i64)
  | _ => none
def eVar : TypeId → Option (Bool × Nat)
  | 1 => some (false, 1)
  | 2 => some (false, 1)
  | 3 => some (false, 1)
  | 4 => some (false, 1)
  | 5 => some (false, 1)
  | 6 => some (false, 1)
  | 7 => some (true, 4)
  | 8 => some (true, 4)
  | 9 => some (false, 1)
  | 10 => some (false, 1)
  | 11 => some (false, 1)
  | 12 => some (false, 1)
  | 13 => some (true, 2)
  | 14 => some (true, 2)
  | 15 => some (false, 1)
  | 16 => some (false, 1)
  | 17 => some (false, 1)
  | 18 => some (true, 1)
  | 19 => some (true, 1)
  | 21 => some (false, 1)
  | 22 => some (false, 1)
  | 23 => some (false, 1)
  | 24 => some (false, 1)
  | 25 => some (true, 2)
  | 26 => some (true, 2)
  | 27 => some (false, 1)
  | 29 => some (false, 1)
  | 31 => some (false, 1)
  | 33 => some (false, 1)
  | 35 => some (false, 1)
  | 36 => some (false, 1)
  | 37 => some (false, 1)
  | 39 => some (false, 1)
  | 40 => some (false, 1)
  | 41 => some (false, 1)
  | 42 => some (true, 1)
  | 43 => some (true, 1)
  | 44 => some (false, 1)
  | 45 => some (true, 2)
  | 46 => some (true, 2)
  | 47 => some (false, 1)
  | 48 => some (false, 1)
  | 50 => some (false, 1)
  | 51 => some (false, 1)
  | 52 => some (false, 1)
  | 53 => some (false, 1)
  | 55 => some (false, 1)
  | 56 => some (false, 1)
  | 57 => some (false, 1)
  | 58 => some (false, 1)
  | 59 => some (false, 1)
  | 60 => some (false, 1)
  | 61 => some (false, 1)
  | 62 => some (false, 1)
  | 64 => some (false, 1)
  | 65 => some (false, 1)
  | 66 => some (false, 1)
  | 67 => some (false, 1)
  | 68 => some (false, 1)
  | 69 => some (false, 1)
  | 71 => some (false, 1)
  | 72 => some (false, 1)
  | 73 => some (false, 1)
  | 74 => some (false, 1)
  | 75 => some (false, 1)
  | 76 => some (false, 1)
  | 77 => some (false, 1)
  | 78 => some (false, 1)
  | 79 => some (false, 1)
  | 80 => some (false, 1)
  | 81 => some (false, 1)
  | 82 => some (false, 1)
  | 83 => some (false, 1)
  | 84 => some (false, 1)
  | 85 => some (false, 1)
  | 86 => some (true, 3)
  | 87 => some (true, 3)
  | 88 => some (false, 1)
  | 89 => some (false, 1)
  | 90 => some (false, 1)
  | 91 => some (false, 1)
  | 92 => some (false, 1)
  | 93 => some (false, 1)
  | 94 => some (false, 1)
  | 95 => some (false, 1)
  | 96 => some (false, 1)
  | 97 => some (false, 1)
  | 98 => some (false, 1)
  | 99 => some (true, 2)
  | 100 => some (true, 2)
  | 101 => some (false, 1)
  | 105 => some (false, 1)
  | 106 => some (false, 1)
  | 107 => some (false, 1)
  | 108 => some (false, 1)
  | 109 => some (false, 1)
  | 111 => some (false, 1)
  | 112 => some (false, 1)
  | 113 => some (false, 1)
  | 114 => some (false, 1)
  | 115 => some (false, 1)
  | 116 => some (false, 1)
  | 117 => some (false, 1)
  | 118 => some (false, 1)
  | 119 => some (false, 1)
  | 120 => some (false, 1)
  | 121 => some (false, 1)
  | 122 => some (false, 1)
  | 123 => some (false, 1)
  | 124 => some (false, 1)
  | 126 => some (false, 1)
  | 127 => some (false, 1)
  | 129 => some (false, 1)
  | 131 => some (false, 1)
  | 132 => some (false, 1)
  | 133 => some (false, 1)
  | 135 => some (false, 1)
  | 136 => some (false, 1)
  | 138 => some (false, 1)
  | 139 => some (false, 1)
  | 141 => some (false, 1)
  | 142 => some (false, 1)
  | 143 => some (false, 1)
  | 144 => some (false, 1)
  | 145 => some (false, 1)
  | 146 => some (false, 1)
  | 148 => some (false, 1)
  | 149 => some (false, 1)
  | 150 => some (false, 1)
  | 152 => some (false, 1)
  | 153 => some (false, 1)
  | 154 => some (false, 1)
  | 155 => some (false, 1)
  | 158 => some (false, 1)
  | 159 => some (false, 1)
  | 160 => some (false, 1)
  | 161 => some (false, 1)
  | 162 => some (true, 3)
  | 163 => some (true, 3)
  | 164 => some (false, 1)
  | 165 => some (false, 1)
  | 166 => some (false, 1)
  | 167 => some (false, 1)
  | 168 => some (false, 1)
  | 169 => some (false, 1)
  | 170 => some (false, 1)
  | 172 => some (true, 2)
  | 173 => some (true, 2)
  | 175 => some (false, 1)
  | 176 => some (true, 1)
  | 177 => some (true, 1)
  | 178 => some (false, 1)
  | 180 => some (false, 1)
  | 183 => some (true, 4)
  | 184 => some (true, 4)
  | 188 => some (false, 1)
  | 189 => some (false, 1)
  | 190 => some (false, 1)
  | 191 => some (false, 1)
  | 192 => some (false, 1)
  | 193 => some (false, 1)
  | 194 => some (true, 11)
  | 195 => some (true, 11)
  | _ => none
def eFld : TypeId → Nat → Option Nat
  | 25, 0 => some 0
  | 25, 1 => some 1
  | 26, 0 => some 0
  | 26, 1 => some 1
  | 42, 0 => some 0
  | 43, 0 => some 0
  | 45, 0 => some 0
  | 45, 1 => some 1
  | 46, 0 => some 0
  | 46, 1 => some 1
  | 86, 0 => some 0
  | 86, 1 => some 1
  | 86, 2 => some 2
  | 87, 0 => some 0
  | 87, 1 => some 1
  | 87, 2 => some 2
  | _, _ => none
def eZero : TypeId → Option (List Value)
  | 1 => some [.nilFunc]
  | 2 => some [.int .i64 0]
  | 3 => some [.int .i64 0]
  | 4 => some [.bool false]
  | 5 => some [.int .u8 0]
  | 6 => some [.int .u8 0]
  | 7 => some [.int .i64 0, .int .i64 0, .bool false, .int .u8 0]
  | 8 => some [.int .i64 0, .int .i64 0, .bool false, .int .u8 0]
  | 9 => some [.string ByteArray.empty]
  | 10 => some [.string ByteArray.empty]
  | 11 => some [.string ByteArray.empty]
  | 12 => some [.int .u64 0]
  | 13 => some [.string ByteArray.empty, .int .u64 0]
  | 14 => some [.string ByteArray.empty, .int .u64 0]
  | 15 => some [.pointer none]
  | 16 => some [.pointer none]
  | 17 => some [.pointer none]
  | 18 => some [.pointer none]
  | 19 => some [.pointer none]
  | 21 => some [.int .i32 0]
  | 22 => some [.slice none 0 0]
  | 23 => some [.nilFunc]
  | 24 => some [.slice none 0 0]
  | 25 => some [.slice none 0 0, .slice none 0 0]
  | 26 => some [.slice none 0 0, .slice none 0 0]
  | 27 => some [.nilFunc]
  | 29 => some [.nilFunc]
  | 31 => some [.nilFunc]
  | 33 => some [.nilFunc]
  | 35 => some [.nilFunc]
  | 36 => some [.nilFunc]
  | 37 => some [.nilFunc]
  | 39 => some [.nilFunc]
  | 40 => some [.nilFunc]
  | 41 => some [.slice none 0 0]
  | 42 => some [.slice none 0 0]
  | 43 => some [.slice none 0 0]
  | 44 => some [.nilFunc]
  | 45 => some [.int .i64 0, .int .i64 0]
  | 46 => some [.int .i64 0, .int .i64 0]
  | 47 => some [.nilFunc]
  | 48 => some [.slice none 0 0]
  | 50 => some [.nilFunc]
  | 51 => some [.nilFunc]
  | 52 => some [.nilFunc]
  | 53 => some [.nilFunc]
  | 55 => some [.nilFunc]
  | 56 => some [.nilFunc]
  | 57 => some [.pointer none]
  | 58 => some [.nilFunc]
  | 59 => some [.nilFunc]
  | 60 => some [.nilFunc]
  | 61 => some [.nilFunc]
  | 62 => some [.nilFunc]
  | 64 => some [.nilFunc]
  | 65 => some [.nilFunc]
  | 66 => some [.nilFunc]
  | 67 => some [.map none]
  | 68 => some [.nilFunc]
  | 69 => some [.nilFunc]
  | 71 => some [.nilFunc]
  | 72 => some [.nilFunc]
  | 73 => some [.nilFunc]
  | 74 => some [.pointer none]
  | 75 => some [.nilFunc]
  | 76 => some [.map none]
  | 77 => some [.nilFunc]
  | 78 => some [.nilFunc]
  | 79 => some [.nilFunc]
  | 80 => some [.nilFunc]
  | 81 => some [.slice none 0 0]
  | 82 => some [.nilFunc]
  | 83 => some [.nilFunc]
  | 84 => some [.nilFunc]
  | 85 => some [.int .u64 0]
  | 86 => some [.slice none 0 0, .int .i64 0, .int .u64 0]
  | 87 => some [.slice none 0 0, .int .i64 0, .int .u64 0]
  | 88 => some [.nilFunc]
  | 89 => some [.pointer none]
  | 90 => some [.nilFunc]
  | 91 => some [.nilFunc]
  | 92 => some [.nilFunc]
  | 93 => some [.nilFunc]
  | 94 => some [.nilFunc]
  | 95 => some [.nilFunc]
  | 96 => some [.nilFunc]
  | 97 => some [.nilFunc]
  | 98 => some [.pointer none]
  | 99 => some [.pointer none, .slice none 0 0]
  | 100 => some [.pointer none, .slice none 0 0]
  | 101 => some [.nilFunc]
  | 105 => some [.nilFunc]
  | 106 => some [.nilFunc]
  | 107 => some [.nilFunc]
  | 108 => some [.int .u64 0]
  | 109 => some [.nilFunc]
  | 111 => some [.nilFunc]
  | 112 => some [.nilFunc]
  | 113 => some [.nilFunc]
  | 114 => some [.nilFunc]
  | 115 => some [.pointer none]
  | 116 => some [.nilFunc]
  | 117 => some [.nilFunc]
  | 118 => some [.nilFunc]
  | 119 => some [.nilFunc]
  | 120 => some [.nilFunc]
  | 121 => some [.nilFunc]
  | 122 => some [.nilFunc]
  | 123 => some [.nilFunc]
  | 124 => some [.nilFunc]
  | 126 => some [.nilFunc]
  | 127 => some [.nilFunc]
  | 129 => some [.nilFunc]
  | 131 => some [.nilFunc]
  | 132 => some [.nilFunc]
  | 133 => some [.nilFunc]
  | 135 => some [.nilFunc]
  | 136 => some [.int .u32 0]
  | 138 => some [.nilFunc]
  | 139 => some [.int .i64 0]
  | 141 => some [.nilFunc]
  | 142 => some [.pointer none]
  | 143 => some [.nilFunc]
  | 144 => some [.nilFunc]
  | 145 => some [.nilFunc]
  | 146 => some [.int .i64 0]
  | 148 => some [.nilFunc]
  | 149 => some [.nilFunc]
  | 150 => some [.nilFunc]
  | 152 => some [.nilFunc]
  | 153 => some [.nilFunc]
  | 154 => some [.slice none 0 0]
  | 155 => some [.nilFunc]
  | 158 => some [.nilFunc]
  | 159 => some [.nilFunc]
  | 160 => some [.nilFunc]
  | 161 => some [.nilFunc]
  | 162 => some [.string ByteArray.empty, .string ByteArray.empty, .nilIface]
  | 163 => some [.string ByteArray.empty, .string ByteArray.empty, .nilIface]
  | 164 => some [.nilFunc]
  | 165 => some [.int .u64 0]
  | 166 => some [.nilFunc]
  | 167 => some [.nilFunc]
  | 168 => some [.nilFunc]
  | 169 => some [.pointer none]
  | 170 => some [.nilFunc]
  | 172 => some [.int .u8 0, .int .u8 0]
  | 173 => some [.int .u8 0, .int .u8 0]
  | 175 => some [.pointer none]
  | 176 => some [.string ByteArray.empty]
  | 177 => some [.string ByteArray.empty]
  | 178 => some [.pointer none]
  | 180 => some [.nilFunc]
  | 183 => some [.pointer none, .pointer none, .pointer none, .string ByteArray.empty]
  | 184 => some [.pointer none, .pointer none, .pointer none, .string ByteArray.empty]
  | 188 => some [.nilFunc]
  | 189 => some [.int .u8 0]
  | 190 => some [.int .u8 0]
  | 191 => some [.nilFunc]
  | 192 => some [.int .i32 0]
  | 193 => some [.int .i32 0]
  | 194 => some [.int .u64 0, .int .u64 0, .int .u32 0, .int .u8 0, .int .u8 0, .int .u8 0, .int .u8 0, .nilFunc, .pointer none, .int .i32 0, .int .i32 0]
  | 195 => some [.int .u64 0, .int .u64 0, .int .u32 0, .int .u8 0, .int .u8 0, .int .u8 0, .int .u8 0, .nilFunc, .pointer none, .int .i32 0, .int .i32 0]
  | _ => none
def eKnd : TypeId → Option TypeDesc
  | 2 => some (.int .i64)
  | 3 => some (.int .i64)
  | 4 => some (.bool)
  | 5 => some (.int .u8)
  | 6 => some (.int .u8)
  | 9 => some (.string)
  | 10 => some (.string)
  | 11 => some (.string)
  | 12 => some (.int .u64)
  | 21 => some (.int .i32)
  | 85 => some (.int .u64)
  | 108 => some (.int .u64)
  | 136 => some (.int .u32)
  | 139 => some (.int .i64)
  | 146 => some (.int .i64)
  | 165 => some (.int .u64)
  | 189 => some (.int .u8)
  | 190 => some (.int .u8)
  | 192 => some (.int .i32)
  | 193 => some (.int .i32)
  | _ => none
def eBld : TypeId → Option (List (Nat × Nat))
  | 7 => some [(0, 1), (1, 1), (2, 1), (3, 1)]
  | 8 => some [(0, 1), (1, 1), (2, 1), (3, 1)]
  | 13 => some [(0, 1), (1, 1)]
  | 14 => some [(0, 1), (1, 1)]
  | 18 => some [(0, 1)]
  | 19 => some [(0, 1)]
  | 25 => some [(0, 1), (1, 1)]
  | 26 => some [(0, 1), (1, 1)]
  | 42 => some [(0, 1)]
  | 43 => some [(0, 1)]
  | 45 => some [(0, 1), (1, 1)]
  | 46 => some [(0, 1), (1, 1)]
  | 86 => some [(0, 1), (1, 1), (2, 1)]
  | 87 => some [(0, 1), (1, 1), (2, 1)]
  | 99 => some [(0, 1), (1, 1)]
  | 100 => some [(0, 1), (1, 1)]
  | 162 => some [(0, 1), (1, 1), (2, 1)]
  | 163 => some [(0, 1), (1, 1), (2, 1)]
  | 172 => some [(0, 1), (1, 1)]
  | 173 => some [(0, 1), (1, 1)]
  | 176 => some [(0, 1)]
  | 177 => some [(0, 1)]
  | 183 => some [(0, 1), (1, 1), (2, 1), (3, 1)]
  | 184 => some [(0, 1), (1, 1), (2, 1), (3, 1)]
  | 194 => some [(0, 1), (1, 1), (2, 1), (3, 1), (4, 1), (5, 1), (6, 1), (7, 1), (8, 1), (9, 1), (10, 1)]
  | 195 => some [(0, 1), (1, 1), (2, 1), (3, 1), (4, 1), (5, 1), (6, 1), (7, 1), (8, 1), (9, 1), (10, 1)]
  | _ => none
def ePts : TypeId → Bool
  | 45 => true
  | 46 => true
  | _ => false
def eMp : TypeId → Option (KK × Value)
  | 67 => some (.int .i64, .int .i64 0)
  | 76 => some (.pt, .bool false)
  | _ => none
def eByt : TypeId → Bool
  | 22 => true
  | _ => false
def eIfc : TypeId → Bool
  | 20 => true
  | 102 => true
  | 103 => true
  | _ => false
def env : Env := { sl := eSl, var := eVar, fld := eFld, zero := eZero, knd := eKnd, bld := eBld, pts := ePts, mp := eMp, byt := eByt, ifc := eIfc }
theorem info1 : (Tryd.prog.info? 1).map (fun i => (i.zero, i.size, i.bytes)) = some (some (.nilFunc), 1, 8) := by kernel_rfl
theorem info2 : (Tryd.prog.info? 2).map (fun i => (i.zero, i.size, i.bytes)) = some (some (.int .i64 0), 1, 8) := by kernel_rfl
theorem info3 : (Tryd.prog.info? 3).map (fun i => (i.zero, i.size, i.bytes)) = some (some (.int .i64 0), 1, 8) := by kernel_rfl
theorem info4 : (Tryd.prog.info? 4).map (fun i => (i.zero, i.size, i.bytes)) = some (some (.bool false), 1, 1) := by kernel_rfl
theorem info5 : (Tryd.prog.info? 5).map (fun i => (i.zero, i.size, i.bytes)) = some (some (.int .u8 0), 1, 1) := by kernel_rfl
theorem info6 : (Tryd.prog.info? 6).map (fun i => (i.zero, i.size, i.bytes)) = some (some (.int .u8 0), 1, 1) := by kernel_rfl
theorem info7 : (Tryd.prog.info? 7).map (fun i => (i.zero, i.size, i.bytes)) = some (some (.agg #[.int .i64 0, .int .i64 0, .bool false, .int .u8 0]), 4, 24) := by kernel_rfl
theorem info8 : (Tryd.prog.info? 8).map (fun i => (i.zero, i.size, i.bytes)) = some (some (.agg #[.int .i64 0, .int .i64 0, .bool false, .int .u8 0]), 4, 24) := by kernel_rfl
theorem info9 : (Tryd.prog.info? 9).map (fun i => (i.zero, i.size, i.bytes)) = some (some (.string ByteArray.empty), 1, 16) := by kernel_rfl
theorem info10 : (Tryd.prog.info? 10).map (fun i => (i.zero, i.size, i.bytes)) = some (some (.string ByteArray.empty), 1, 16) := by kernel_rfl
theorem info11 : (Tryd.prog.info? 11).map (fun i => (i.zero, i.size, i.bytes)) = some (some (.string ByteArray.empty), 1, 16) := by kernel_rfl
theorem info12 : (Tryd.prog.info? 12).map (fun i => (i.zero, i.size, i.bytes)) = some (some (.int .u64 0), 1, 8) := by kernel_rfl
theorem info13 : (Tryd.prog.info? 13).map (fun i => (i.zero, i.size, i.bytes)) = some (some (.agg #[.string ByteArray.empty, .int .u64 0]), 2, 24) := by kernel_rfl
theorem info14 : (Tryd.prog.info? 14).map (fun i => (i.zero, i.size, i.bytes)) = some (some (.agg #[.string ByteArray.empty, .int .u64 0]), 2, 24) := by kernel_rfl
theorem info15 : (Tryd.prog.info? 15).map (fun i => (i.zero, i.size, i.bytes)) = some (some (.pointer none), 1, 8) := by kernel_rfl
theorem info16 : (Tryd.prog.info? 16).map (fun i => (i.zero, i.size, i.bytes)) = some (some (.pointer none), 1, 8) := by kernel_rfl
theorem info17 : (Tryd.prog.info? 17).map (fun i => (i.zero, i.size, i.bytes)) = some (some (.pointer none), 1, 8) := by kernel_rfl
theorem info18 : (Tryd.prog.info? 18).map (fun i => (i.zero, i.size, i.bytes)) = some (some (.agg #[.pointer none]), 1, 8) := by kernel_rfl
theorem info19 : (Tryd.prog.info? 19).map (fun i => (i.zero, i.size, i.bytes)) = some (some (.agg #[.pointer none]), 1, 8) := by kernel_rfl
theorem info21 : (Tryd.prog.info? 21).map (fun i => (i.zero, i.size, i.bytes)) = some (some (.int .i32 0), 1, 4) := by kernel_rfl
theorem info22 : (Tryd.prog.info? 22).map (fun i => (i.zero, i.size, i.bytes)) = some (some (.slice none 0 0), 1, 24) := by kernel_rfl
theorem info23 : (Tryd.prog.info? 23).map (fun i => (i.zero, i.size, i.bytes)) = some (some (.nilFunc), 1, 8) := by kernel_rfl
theorem info24 : (Tryd.prog.info? 24).map (fun i => (i.zero, i.size, i.bytes)) = some (some (.slice none 0 0), 1, 24) := by kernel_rfl
theorem info25 : (Tryd.prog.info? 25).map (fun i => (i.zero, i.size, i.bytes)) = some (some (.agg #[.slice none 0 0, .slice none 0 0]), 2, 48) := by kernel_rfl
theorem info26 : (Tryd.prog.info? 26).map (fun i => (i.zero, i.size, i.bytes)) = some (some (.agg #[.slice none 0 0, .slice none 0 0]), 2, 48) := by kernel_rfl
theorem info27 : (Tryd.prog.info? 27).map (fun i => (i.zero, i.size, i.bytes)) = some (some (.nilFunc), 1, 8) := by kernel_rfl
theorem info29 : (Tryd.prog.info? 29).map (fun i => (i.zero, i.size, i.bytes)) = some (some (.nilFunc), 1, 8) := by kernel_rfl
theorem info31 : (Tryd.prog.info? 31).map (fun i => (i.zero, i.size, i.bytes)) = some (some (.nilFunc), 1, 8) := by kernel_rfl
theorem info33 : (Tryd.prog.info? 33).map (fun i => (i.zero, i.size, i.bytes)) = some (some (.nilFunc), 1, 8) := by kernel_rfl
theorem info35 : (Tryd.prog.info? 35).map (fun i => (i.zero, i.size, i.bytes)) = some (some (.nilFunc), 1, 8) := by kernel_rfl
theorem info36 : (Tryd.prog.info? 36).map (fun i => (i.zero, i.size, i.bytes)) = some (some (.nilFunc), 1, 8) := by kernel_rfl
theorem info37 : (Tryd.prog.info? 37).map (fun i => (i.zero, i.size, i.bytes)) = some (some (.nilFunc), 1, 8) := by kernel_rfl
theorem info39 : (Tryd.prog.info? 39).map (fun i => (i.zero, i.size, i.bytes)) = some (some (.nilFunc), 1, 8) := by kernel_rfl
theorem info40 : (Tryd.prog.info? 40).map (fun i => (i.zero, i.size, i.bytes)) = some (some (.nilFunc), 1, 8) := by kernel_rfl
theorem info41 : (Tryd.prog.info? 41).map (fun i => (i.zero, i.size, i.bytes)) = some (some (.slice none 0 0), 1, 24) := by kernel_rfl
theorem info42 : (Tryd.prog.info? 42).map (fun i => (i.zero, i.size, i.bytes)) = some (some (.agg #[.slice none 0 0]), 1, 24) := by kernel_rfl
theorem info43 : (Tryd.prog.info? 43).map (fun i => (i.zero, i.size, i.bytes)) = some (some (.agg #[.slice none 0 0]), 1, 24) := by kernel_rfl
theorem info44 : (Tryd.prog.info? 44).map (fun i => (i.zero, i.size, i.bytes)) = some (some (.nilFunc), 1, 8) := by kernel_rfl
theorem info45 : (Tryd.prog.info? 45).map (fun i => (i.zero, i.size, i.bytes)) = some (some (.agg #[.int .i64 0, .int .i64 0]), 2, 16) := by kernel_rfl
theorem info46 : (Tryd.prog.info? 46).map (fun i => (i.zero, i.size, i.bytes)) = some (some (.agg #[.int .i64 0, .int .i64 0]), 2, 16) := by kernel_rfl
theorem info47 : (Tryd.prog.info? 47).map (fun i => (i.zero, i.size, i.bytes)) = some (some (.nilFunc), 1, 8) := by kernel_rfl
theorem info48 : (Tryd.prog.info? 48).map (fun i => (i.zero, i.size, i.bytes)) = some (some (.slice none 0 0), 1, 24) := by kernel_rfl
theorem info50 : (Tryd.prog.info? 50).map (fun i => (i.zero, i.size, i.bytes)) = some (some (.nilFunc), 1, 8) := by kernel_rfl
theorem info51 : (Tryd.prog.info? 51).map (fun i => (i.zero, i.size, i.bytes)) = some (some (.nilFunc), 1, 8) := by kernel_rfl
theorem info52 : (Tryd.prog.info? 52).map (fun i => (i.zero, i.size, i.bytes)) = some (some (.nilFunc), 1, 8) := by kernel_rfl
theorem info53 : (Tryd.prog.info? 53).map (fun i => (i.zero, i.size, i.bytes)) = some (some (.nilFunc), 1, 8) := by kernel_rfl
theorem info55 : (Tryd.prog.info? 55).map (fun i => (i.zero, i.size, i.bytes)) = some (some (.nilFunc), 1, 8) := by kernel_rfl
theorem info56 : (Tryd.prog.info? 56).map (fun i => (i.zero, i.size, i.bytes)) = some (some (.nilFunc), 1, 8) := by kernel_rfl
theorem info57 : (Tryd.prog.info? 57).map (fun i => (i.zero, i.size, i.bytes)) = some (some (.pointer none), 1, 8) := by kernel_rfl
theorem info58 : (Tryd.prog.info? 58).map (fun i => (i.zero, i.size, i.bytes)) = some (some (.nilFunc), 1, 8) := by kernel_rfl
theorem info59 : (Tryd.prog.info? 59).map (fun i => (i.zero, i.size, i.bytes)) = some (some (.nilFunc), 1, 8) := by kernel_rfl
theorem info60 : (Tryd.prog.info? 60).map (fun i => (i.zero, i.size, i.bytes)) = some (some (.nilFunc), 1, 8) := by kernel_rfl
theorem info61 : (Tryd.prog.info? 61).map (fun i => (i.zero, i.size, i.bytes)) = some (some (.nilFunc), 1, 8) := by kernel_rfl
theorem info62 : (Tryd.prog.info? 62).map (fun i => (i.zero, i.size, i.bytes)) = some (some (.nilFunc), 1, 8) := by kernel_rfl
theorem info64 : (Tryd.prog.info? 64).map (fun i => (i.zero, i.size, i.bytes)) = some (some (.nilFunc), 1, 8) := by kernel_rfl
theorem info65 : (Tryd.prog.info? 65).map (fun i => (i.zero, i.size, i.bytes)) = some (some (.nilFunc), 1, 8) := by kernel_rfl
theorem info66 : (Tryd.prog.info? 66).map (fun i => (i.zero, i.size, i.bytes)) = some (some (.nilFunc), 1, 8) := by kernel_rfl
theorem info67 : (Tryd.prog.info? 67).map (fun i => (i.zero, i.size, i.bytes)) = some (some (.map none), 1, 8) := by kernel_rfl
theorem info68 : (Tryd.prog.info? 68).map (fun i => (i.zero, i.size, i.bytes)) = some (some (.nilFunc), 1, 8) := by kernel_rfl
theorem info69 : (Tryd.prog.info? 69).map (fun i => (i.zero, i.size, i.bytes)) = some (some (.nilFunc), 1, 8) := by kernel_rfl
theorem info71 : (Tryd.prog.info? 71).map (fun i => (i.zero, i.size, i.bytes)) = some (some (.nilFunc), 1, 8) := by kernel_rfl
theorem info72 : (Tryd.prog.info? 72).map (fun i => (i.zero, i.size, i.bytes)) = some (some (.nilFunc), 1, 8) := by kernel_rfl
theorem info73 : (Tryd.prog.info? 73).map (fun i => (i.zero, i.size, i.bytes)) = some (some (.nilFunc), 1, 8) := by kernel_rfl
theorem info74 : (Tryd.prog.info? 74).map (fun i => (i.zero, i.size, i.bytes)) = some (some (.pointer none), 1, 8) := by kernel_rfl
theorem info75 : (Tryd.prog.info? 75).map (fun i => (i.zero, i.size, i.bytes)) = some (some (.nilFunc), 1, 8) := by kernel_rfl
theorem info76 : (Tryd.prog.info? 76).map (fun i => (i.zero, i.size, i.bytes)) = some (some (.map none), 1, 8) := by kernel_rfl
theorem info77 : (Tryd.prog.info? 77).map (fun i => (i.zero, i.size, i.bytes)) = some (some (.nilFunc), 1, 8) := by kernel_rfl
theorem info78 : (Tryd.prog.info? 78).map (fun i => (i.zero, i.size, i.bytes)) = some (some (.nilFunc), 1, 8) := by kernel_rfl
theorem info79 : (Tryd.prog.info? 79).map (fun i => (i.zero, i.size, i.bytes)) = some (some (.nilFunc), 1, 8) := by kernel_rfl
theorem info80 : (Tryd.prog.info? 80).map (fun i => (i.zero, i.size, i.bytes)) = some (some (.nilFunc), 1, 8) := by kernel_rfl
theorem info81 : (Tryd.prog.info? 81).map (fun i => (i.zero, i.size, i.bytes)) = some (some (.slice none 0 0), 1, 24) := by kernel_rfl
theorem info82 : (Tryd.prog.info? 82).map (fun i => (i.zero, i.size, i.bytes)) = some (some (.nilFunc), 1, 8) := by kernel_rfl
theorem info83 : (Tryd.prog.info? 83).map (fun i => (i.zero, i.size, i.bytes)) = some (some (.nilFunc), 1, 8) := by kernel_rfl
theorem info84 : (Tryd.prog.info? 84).map (fun i => (i.zero, i.size, i.bytes)) = some (some (.nilFunc), 1, 8) := by kernel_rfl
theorem info85 : (Tryd.prog.info? 85).map (fun i => (i.zero, i.size, i.bytes)) = some (some (.int .u64 0), 1, 8) := by kernel_rfl
theorem info86 : (Tryd.prog.info? 86).map (fun i => (i.zero, i.size, i.bytes)) = some (some (.agg #[.slice none 0 0, .int .i64 0, .int .u64 0]), 3, 40) := by kernel_rfl
theorem info87 : (Tryd.prog.info? 87).map (fun i => (i.zero, i.size, i.bytes)) = some (some (.agg #[.slice none 0 0, .int .i64 0, .int .u64 0]), 3, 40) := by kernel_rfl
theorem info88 : (Tryd.prog.info? 88).map (fun i => (i.zero, i.size, i.bytes)) = some (some (.nilFunc), 1, 8) := by kernel_rfl
theorem info89 : (Tryd.prog.info? 89).map (fun i => (i.zero, i.size, i.bytes)) = some (some (.pointer none), 1, 8) := by kernel_rfl
theorem info90 : (Tryd.prog.info? 90).map (fun i => (i.zero, i.size, i.bytes)) = some (some (.nilFunc), 1, 8) := by kernel_rfl
theorem info91 : (Tryd.prog.info? 91).map (fun i => (i.zero, i.size, i.bytes)) = some (some (.nilFunc), 1, 8) := by kernel_rfl
theorem info92 : (Tryd.prog.info? 92).map (fun i => (i.zero, i.size, i.bytes)) = some (some (.nilFunc), 1, 8) := by kernel_rfl
theorem info93 : (Tryd.prog.info? 93).map (fun i => (i.zero, i.size, i.bytes)) = some (some (.nilFunc), 1, 8) := by kernel_rfl
theorem info94 : (Tryd.prog.info? 94).map (fun i => (i.zero, i.size, i.bytes)) = some (some (.nilFunc), 1, 8) := by kernel_rfl
theorem info95 : (Tryd.prog.info? 95).map (fun i => (i.zero, i.size, i.bytes)) = some (some (.nilFunc), 1, 8) := by kernel_rfl
theorem info96 : (Tryd.prog.info? 96).map (fun i => (i.zero, i.size, i.bytes)) = some (some (.nilFunc), 1, 8) := by kernel_rfl
theorem info97 : (Tryd.prog.info? 97).map (fun i => (i.zero, i.size, i.bytes)) = some (some (.nilFunc), 1, 8) := by kernel_rfl
theorem info98 : (Tryd.prog.info? 98).map (fun i => (i.zero, i.size, i.bytes)) = some (some (.pointer none), 1, 8) := by kernel_rfl
theorem info99 : (Tryd.prog.info? 99).map (fun i => (i.zero, i.size, i.bytes)) = some (some (.agg #[.pointer none, .slice none 0 0]), 2, 32) := by kernel_rfl
theorem info100 : (Tryd.prog.info? 100).map (fun i => (i.zero, i.size, i.bytes)) = some (some (.agg #[.pointer none, .slice none 0 0]), 2, 32) := by kernel_rfl
theorem info101 : (Tryd.prog.info? 101).map (fun i => (i.zero, i.size, i.bytes)) = some (some (.nilFunc), 1, 8) := by kernel_rfl
theorem info105 : (Tryd.prog.info? 105).map (fun i => (i.zero, i.size, i.bytes)) = some (some (.nilFunc), 1, 8) := by kernel_rfl
theorem info106 : (Tryd.prog.info? 106).map (fun i => (i.zero, i.size, i.bytes)) = some (some (.nilFunc), 1, 8) := by kernel_rfl
theorem info107 : (Tryd.prog.info? 107).map (fun i => (i.zero, i.size, i.bytes)) = some (some (.nilFunc), 1, 8) := by kernel_rfl
theorem info108 : (Tryd.prog.info? 108).map (fun i => (i.zero, i.size, i.bytes)) = some (some (.int .u64 0), 1, 8) := by kernel_rfl
theorem info109 : (Tryd.prog.info? 109).map (fun i => (i.zero, i.size, i.bytes)) = some (some (.nilFunc), 1, 8) := by kernel_rfl
theorem info111 : (Tryd.prog.info? 111).map (fun i => (i.zero, i.size, i.bytes)) = some (some (.nilFunc), 1, 8) := by kernel_rfl
theorem info112 : (Tryd.prog.info? 112).map (fun i => (i.zero, i.size, i.bytes)) = some (some (.nilFunc), 1, 8) := by kernel_rfl
theorem info113 : (Tryd.prog.info? 113).map (fun i => (i.zero, i.size, i.bytes)) = some (some (.nilFunc), 1, 8) := by kernel_rfl
theorem info114 : (Tryd.prog.info? 114).map (fun i => (i.zero, i.size, i.bytes)) = some (some (.nilFunc), 1, 8) := by kernel_rfl
theorem info115 : (Tryd.prog.info? 115).map (fun i => (i.zero, i.size, i.bytes)) = some (some (.pointer none), 1, 8) := by kernel_rfl
theorem info116 : (Tryd.prog.info? 116).map (fun i => (i.zero, i.size, i.bytes)) = some (some (.nilFunc), 1, 8) := by kernel_rfl
theorem info117 : (Tryd.prog.info? 117).map (fun i => (i.zero, i.size, i.bytes)) = some (some (.nilFunc), 1, 8) := by kernel_rfl
theorem info118 : (Tryd.prog.info? 118).map (fun i => (i.zero, i.size, i.bytes)) = some (some (.nilFunc), 1, 8) := by kernel_rfl
theorem info119 : (Tryd.prog.info? 119).map (fun i => (i.zero, i.size, i.bytes)) = some (some (.nilFunc), 1, 8) := by kernel_rfl
theorem info120 : (Tryd.prog.info? 120).map (fun i => (i.zero, i.size, i.bytes)) = some (some (.nilFunc), 1, 8) := by kernel_rfl
theorem info121 : (Tryd.prog.info? 121).map (fun i => (i.zero, i.size, i.bytes)) = some (some (.nilFunc), 1, 8) := by kernel_rfl
theorem info122 : (Tryd.prog.info? 122).map (fun i => (i.zero, i.size, i.bytes)) = some (some (.nilFunc), 1, 8) := by kernel_rfl
theorem info123 : (Tryd.prog.info? 123).map (fun i => (i.zero, i.size, i.bytes)) = some (some (.nilFunc), 1, 8) := by kernel_rfl
theorem info124 : (Tryd.prog.info? 124).map (fun i => (i.zero, i.size, i.bytes)) = some (some (.nilFunc), 1, 8) := by kernel_rfl
theorem info126 : (Tryd.prog.info? 126).map (fun i => (i.zero, i.size, i.bytes)) = some (some (.nilFunc), 1, 8) := by kernel_rfl
theorem info127 : (Tryd.prog.info? 127).map (fun i => (i.zero, i.size, i.bytes)) = some (some (.nilFunc), 1, 8) := by kernel_rfl
theorem info129 : (Tryd.prog.info? 129).map (fun i => (i.zero, i.size, i.bytes)) = some (some (.nilFunc), 1, 8) := by kernel_rfl
theorem info131 : (Tryd.prog.info? 131).map (fun i => (i.zero, i.size, i.bytes)) = some (some (.nilFunc), 1, 8) := by kernel_rfl
theorem info132 : (Tryd.prog.info? 132).map (fun i => (i.zero, i.size, i.bytes)) = some (some (.nilFunc), 1, 8) := by kernel_rfl
theorem info133 : (Tryd.prog.info? 133).map (fun i => (i.zero, i.size, i.bytes)) = some (some (.nilFunc), 1, 8) := by kernel_rfl
theorem info135 : (Tryd.prog.info? 135).map (fun i => (i.zero, i.size, i.bytes)) = some (some (.nilFunc), 1, 8) := by kernel_rfl
theorem info136 : (Tryd.prog.info? 136).map (fun i => (i.zero, i.size, i.bytes)) = some (some (.int .u32 0), 1, 4) := by kernel_rfl
theorem info138 : (Tryd.prog.info? 138).map (fun i => (i.zero, i.size, i.bytes)) = some (some (.nilFunc), 1, 8) := by kernel_rfl
theorem info139 : (Tryd.prog.info? 139).map (fun i => (i.zero, i.size, i.bytes)) = some (some (.int .i64 0), 1, 8) := by kernel_rfl
theorem info141 : (Tryd.prog.info? 141).map (fun i => (i.zero, i.size, i.bytes)) = some (some (.nilFunc), 1, 8) := by kernel_rfl
theorem info142 : (Tryd.prog.info? 142).map (fun i => (i.zero, i.size, i.bytes)) = some (some (.pointer none), 1, 8) := by kernel_rfl
theorem info143 : (Tryd.prog.info? 143).map (fun i => (i.zero, i.size, i.bytes)) = some (some (.nilFunc), 1, 8) := by kernel_rfl
theorem info144 : (Tryd.prog.info? 144).map (fun i => (i.zero, i.size, i.bytes)) = some (some (.nilFunc), 1, 8) := by kernel_rfl
theorem info145 : (Tryd.prog.info? 145).map (fun i => (i.zero, i.size, i.bytes)) = some (some (.nilFunc), 1, 8) := by kernel_rfl
theorem info146 : (Tryd.prog.info? 146).map (fun i => (i.zero, i.size, i.bytes)) = some (some (.int .i64 0), 1, 8) := by kernel_rfl
theorem info148 : (Tryd.prog.info? 148).map (fun i => (i.zero, i.size, i.bytes)) = some (some (.nilFunc), 1, 8) := by kernel_rfl
theorem info149 : (Tryd.prog.info? 149).map (fun i => (i.zero, i.size, i.bytes)) = some (some (.nilFunc), 1, 8) := by kernel_rfl
theorem info150 : (Tryd.prog.info? 150).map (fun i => (i.zero, i.size, i.bytes)) = some (some (.nilFunc), 1, 8) := by kernel_rfl
theorem info152 : (Tryd.prog.info? 152).map (fun i => (i.zero, i.size, i.bytes)) = some (some (.nilFunc), 1, 8) := by kernel_rfl
theorem info153 : (Tryd.prog.info? 153).map (fun i => (i.zero, i.size, i.bytes)) = some (some (.nilFunc), 1, 8) := by kernel_rfl
theorem info154 : (Tryd.prog.info? 154).map (fun i => (i.zero, i.size, i.bytes)) = some (some (.slice none 0 0), 1, 24) := by kernel_rfl
theorem info155 : (Tryd.prog.info? 155).map (fun i => (i.zero, i.size, i.bytes)) = some (some (.nilFunc), 1, 8) := by kernel_rfl
theorem info158 : (Tryd.prog.info? 158).map (fun i => (i.zero, i.size, i.bytes)) = some (some (.nilFunc), 1, 8) := by kernel_rfl
theorem info159 : (Tryd.prog.info? 159).map (fun i => (i.zero, i.size, i.bytes)) = some (some (.nilFunc), 1, 8) := by kernel_rfl
theorem info160 : (Tryd.prog.info? 160).map (fun i => (i.zero, i.size, i.bytes)) = some (some (.nilFunc), 1, 8) := by kernel_rfl
theorem info161 : (Tryd.prog.info? 161).map (fun i => (i.zero, i.size, i.bytes)) = some (some (.nilFunc), 1, 8) := by kernel_rfl
theorem info162 : (Tryd.prog.info? 162).map (fun i => (i.zero, i.size, i.bytes)) = some (some (.agg #[.string ByteArray.empty, .string ByteArray.empty, .nilIface]), 3, 48) := by kernel_rfl
theorem info163 : (Tryd.prog.info? 163).map (fun i => (i.zero, i.size, i.bytes)) = some (some (.agg #[.string ByteArray.empty, .string ByteArray.empty, .nilIface]), 3, 48) := by kernel_rfl
theorem info164 : (Tryd.prog.info? 164).map (fun i => (i.zero, i.size, i.bytes)) = some (some (.nilFunc), 1, 8) := by kernel_rfl
theorem info165 : (Tryd.prog.info? 165).map (fun i => (i.zero, i.size, i.bytes)) = some (some (.int .u64 0), 1, 8) := by kernel_rfl
theorem info166 : (Tryd.prog.info? 166).map (fun i => (i.zero, i.size, i.bytes)) = some (some (.nilFunc), 1, 8) := by kernel_rfl
theorem info167 : (Tryd.prog.info? 167).map (fun i => (i.zero, i.size, i.bytes)) = some (some (.nilFunc), 1, 8) := by kernel_rfl
theorem info168 : (Tryd.prog.info? 168).map (fun i => (i.zero, i.size, i.bytes)) = some (some (.nilFunc), 1, 8) := by kernel_rfl
theorem info169 : (Tryd.prog.info? 169).map (fun i => (i.zero, i.size, i.bytes)) = some (some (.pointer none), 1, 8) := by kernel_rfl
theorem info170 : (Tryd.prog.info? 170).map (fun i => (i.zero, i.size, i.bytes)) = some (some (.nilFunc), 1, 8) := by kernel_rfl
theorem info172 : (Tryd.prog.info? 172).map (fun i => (i.zero, i.size, i.bytes)) = some (some (.agg #[.int .u8 0, .int .u8 0]), 2, 2) := by kernel_rfl
theorem info173 : (Tryd.prog.info? 173).map (fun i => (i.zero, i.size, i.bytes)) = some (some (.agg #[.int .u8 0, .int .u8 0]), 2, 2) := by kernel_rfl
theorem info175 : (Tryd.prog.info? 175).map (fun i => (i.zero, i.size, i.bytes)) = some (some (.pointer none), 1, 8) := by kernel_rfl
theorem info176 : (Tryd.prog.info? 176).map (fun i => (i.zero, i.size, i.bytes)) = some (some (.agg #[.string ByteArray.empty]), 1, 16) := by kernel_rfl
theorem info177 : (Tryd.prog.info? 177).map (fun i => (i.zero, i.size, i.bytes)) = some (some (.agg #[.string ByteArray.empty]), 1, 16) := by kernel_rfl
theorem info178 : (Tryd.prog.info? 178).map (fun i => (i.zero, i.size, i.bytes)) = some (some (.pointer none), 1, 8) := by kernel_rfl
theorem info180 : (Tryd.prog.info? 180).map (fun i => (i.zero, i.size, i.bytes)) = some (some (.nilFunc), 1, 8) := by kernel_rfl
theorem info183 : (Tryd.prog.info? 183).map (fun i => (i.zero, i.size, i.bytes)) = some (some (.agg #[.pointer none, .pointer none, .pointer none, .string ByteArray.empty]), 4, 40) := by kernel_rfl
theorem info184 : (Tryd.prog.info? 184).map (fun i => (i.zero, i.size, i.bytes)) = some (some (.agg #[.pointer none, .pointer none, .pointer none, .string ByteArray.empty]), 4, 40) := by kernel_rfl
theorem info188 : (Tryd.prog.info? 188).map (fun i => (i.zero, i.size, i.bytes)) = some (some (.nilFunc), 1, 8) := by kernel_rfl
theorem info189 : (Tryd.prog.info? 189).map (fun i => (i.zero, i.size, i.bytes)) = some (some (.int .u8 0), 1, 1) := by kernel_rfl
theorem info190 : (Tryd.prog.info? 190).map (fun i => (i.zero, i.size, i.bytes)) = some (some (.int .u8 0), 1, 1) := by kernel_rfl
theorem info191 : (Tryd.prog.info? 191).map (fun i => (i.zero, i.size, i.bytes)) = some (some (.nilFunc), 1, 8) := by kernel_rfl
theorem info192 : (Tryd.prog.info? 192).map (fun i => (i.zero, i.size, i.bytes)) = some (some (.int .i32 0), 1, 4) := by kernel_rfl
theorem info193 : (Tryd.prog.info? 193).map (fun i => (i.zero, i.size, i.bytes)) = some (some (.int .i32 0), 1, 4) := by kernel_rfl
theorem info194 : (Tryd.prog.info? 194).map (fun i => (i.zero, i.size, i.bytes)) = some (some (.agg #[.int .u64 0, .int .u64 0, .int .u32 0, .int .u8 0, .int .u8 0, .int .u8 0, .int .u8 0, .nilFunc, .pointer none, .int .i32 0, .int .i32 0]), 11, 48) := by kernel_rfl
theorem info195 : (Tryd.prog.info? 195).map (fun i => (i.zero, i.size, i.bytes)) = some (some (.agg #[.int .u64 0, .int .u64 0, .int .u32 0, .int .u8 0, .int .u8 0, .int .u8 0, .int .u8 0, .nilFunc, .pointer none, .int .i32 0, .int .i32 0]), 11, 48) := by kernel_rfl
theorem env_sl : ∀ t e, eSl t = some e → ∃ et i z, Tryd.prog.underlying t = some (.slice et) ∧ Tryd.prog.info? et = some i ∧ i.size = e.sz ∧ i.zero = some z ∧ z.cells.size = e.sz ∧ i.bytes ≤ 64 ∧
    ∀ j, j < e.sz → (e.enc e.d).getD j .junk = .v (z.cells.toList.getD j undef) ∨ ∃ e', (e.enc e.d).getD j .junk = .rd e' [] ∧ z.cells.toList.getD j undef = .slice none 0 0 := by
  intro t e h
  unfold eSl at h
  split at h
  · cases h; obtain ⟨i, h1, h2, h3, h4⟩ := info_parts info5
    exact ⟨5, i, _, Tryd.underlying22, h1, h3, h2, rfl, by rw [h4]; decide, fun j hj => .inl (by rcases j with _ | j <;> first | rfl | (exact absurd hj (by simp [ETy.sz])))⟩
  · cases h; obtain ⟨i, h1, h2, h3, h4⟩ := info_parts info2
    exact ⟨2, i, _, Tryd.underlying24, h1, h3, h2, rfl, by rw [h4]; decide, fun j hj => .inl (by rcases j with _ | j <;> first | rfl | (exact absurd hj (by simp [ETy.sz])))⟩
  · cases h; obtain ⟨i, h1, h2, h3, h4⟩ := info_parts info24
    exact ⟨24, i, _, Tryd.underlying41, h1, h3, h2, rfl, by rw [h4]; decide, fun j hj => .inr ⟨_, by rcases j with _ | j <;> first | rfl | (exact absurd hj (by simp [ETy.sz])), by rcases j with _ | j <;> first | rfl | (exact absurd hj (by simp [ETy.sz]))⟩⟩
  · cases h; obtain ⟨i, h1, h2, h3, h4⟩ := info_parts info46
    exact ⟨46, i, _, Tryd.underlying48, h1, h3, h2, rfl, by rw [h4]; decide, fun j hj => .inl (by rcases j with _ | _ | j <;> first | rfl | (exact absurd hj (by simp [ETy.sz])))⟩
  · cases h; obtain ⟨i, h1, h2, h3, h4⟩ := info_parts info9
    exact ⟨9, i, _, Tryd.underlying81, h1, h3, h2, rfl, by rw [h4]; decide, fun j hj => .inl (by rcases j with _ | j <;> first | rfl | (exact absurd hj (by simp [ETy.sz])))⟩
  · cases h; obtain ⟨i, h1, h2, h3, h4⟩ := info_parts info3
    exact ⟨3, i, _, Tryd.underlying154, h1, h3, h2, rfl, by rw [h4]; decide, fun j hj => .inl (by rcases j with _ | j <;> first | rfl | (exact absurd hj (by simp [ETy.sz])))⟩
  · cases h
theorem info_three {P : Program} {e : TypeId} {z : Option Value} {size bytes : Nat} (h : (P.info? e).map (fun i => (i.zero, i.size, i.bytes)) = some (z, size, bytes)) : ∃ i, P.info? e = some i ∧ i.size = size := by
  obtain ⟨i, hi, hzz⟩ := Option.map_eq_some_iff.1 h
  simp only [Prod.mk.injEq] at hzz
  exact ⟨i, hi, hzz.2.1⟩
theorem env_var : ∀ t a s, eVar t = some (a, s) → ∃ d i, Tryd.prog.underlying t = some d ∧ (match d with | .struct _ | .array _ _ => true | _ => false) = a ∧ Tryd.prog.info? t = some i ∧ i.size = s := by
  intro t a s h
  unfold eVar at h
  split at h
  · cases h; obtain ⟨i, h1, h2⟩ := info_three info1; exact ⟨_, i, Tryd.underlying1, rfl, h1, h2⟩
  · cases h; obtain ⟨i, h1, h2⟩ := info_three info2; exact ⟨_, i, Tryd.underlying2, rfl, h1, h2⟩
  · cases h; obtain ⟨i, h1, h2⟩ := info_three info3; exact ⟨_, i, Tryd.underlying3, rfl, h1, h2⟩
  · cases h; obtain ⟨i, h1, h2⟩ := info_three info4; exact ⟨_, i, Tryd.underlying4, rfl, h1, h2⟩
  · cases h; obtain ⟨i, h1, h2⟩ := info_three info5; exact ⟨_, i, Tryd.underlying5, rfl, h1, h2⟩
  · cases h; obtain ⟨i, h1, h2⟩ := info_three info6; exact ⟨_, i, Tryd.underlying6, rfl, h1, h2⟩
  · cases h; obtain ⟨i, h1, h2⟩ := info_three info7; exact ⟨_, i, Tryd.underlying7, rfl, h1, h2⟩
  · cases h; obtain ⟨i, h1, h2⟩ := info_three info8; exact ⟨_, i, Tryd.underlying8, rfl, h1, h2⟩
  · cases h; obtain ⟨i, h1, h2⟩ := info_three info9; exact ⟨_, i, Tryd.underlying9, rfl, h1, h2⟩
  · cases h; obtain ⟨i, h1, h2⟩ := info_three info10; exact ⟨_, i, Tryd.underlying10, rfl, h1, h2⟩
  · cases h; obtain ⟨i, h1, h2⟩ := info_three info11; exact ⟨_, i, Tryd.underlying11, rfl, h1, h2⟩
  · cases h; obtain ⟨i, h1, h2⟩ := info_three info12; exact ⟨_, i, Tryd.underlying12, rfl, h1, h2⟩
  · cases h; obtain ⟨i, h1, h2⟩ := info_three info13; exact ⟨_, i, Tryd.underlying13, rfl, h1, h2⟩
  · cases h; obtain ⟨i, h1, h2⟩ := info_three info14; exact ⟨_, i, Tryd.underlying14, rfl, h1, h2⟩
  · cases h; obtain ⟨i, h1, h2⟩ := info_three info15; exact ⟨_, i, Tryd.underlying15, rfl, h1, h2⟩
  · cases h; obtain ⟨i, h1, h2⟩ := info_three info16; exact ⟨_, i, Tryd.underlying16, rfl, h1, h2⟩
  · cases h; obtain ⟨i, h1, h2⟩ := info_three info17; exact ⟨_, i, Tryd.underlying17, rfl, h1, h2⟩
  · cases h; obtain ⟨i, h1, h2⟩ := info_three info18; exact ⟨_, i, Tryd.underlying18, rfl, h1, h2⟩
  · cases h; obtain ⟨i, h1, h2⟩ := info_three info19; exact ⟨_, i, Tryd.underlying19, rfl, h1, h2⟩
  · cases h; obtain ⟨i, h1, h2⟩ := info_three info21; exact ⟨_, i, Tryd.underlying21, rfl, h1, h2⟩
  · cases h; obtain ⟨i, h1, h2⟩ := info_three info22; exact ⟨_, i, Tryd.underlying22, rfl, h1, h2⟩
  · cases h; obtain ⟨i, h1, h2⟩ := info_three info23; exact ⟨_, i, Tryd.underlying23, rfl, h1, h2⟩
  · cases h; obtain ⟨i, h1, h2⟩ := info_three info24; exact ⟨_, i, Tryd.underlying24, rfl, h1, h2⟩
  · cases h; obtain ⟨i, h1, h2⟩ := info_three info25; exact ⟨_, i, Tryd.underlying25, rfl, h1, h2⟩
  · cases h; obtain ⟨i, h1, h2⟩ := info_three info26; exact ⟨_, i, Tryd.underlying26, rfl, h1, h2⟩
  · cases h; obtain ⟨i, h1, h2⟩ := info_three info27; exact ⟨_, i, Tryd.underlying27, rfl, h1, h2⟩
  · cases h; obtain ⟨i, h1, h2⟩ := info_three info29; exact ⟨_, i, Tryd.underlying29, rfl, h1, h2⟩
  · cases h; obtain ⟨i, h1, h2⟩ := info_three info31; exact ⟨_, i, Tryd.underlying31, rfl, h1, h2⟩
  · cases h; obtain ⟨i, h1, h2⟩ := info_three info33; exact ⟨_, i, Tryd.underlying33, rfl, h1, h2⟩
  · cases h; obtain ⟨i, h1, h2⟩ := info_three info35; exact ⟨_, i, Tryd.underlying35, rfl, h1, h2⟩
  · cases h; obtain ⟨i, h1, h2⟩ := info_three info36; exact ⟨_, i, Tryd.underlying36, rfl, h1, h2⟩
  · cases h; obtain ⟨i, h1, h2⟩ := info_three info37; exact ⟨_, i, Tryd.underlying37, rfl, h1, h2⟩
  · cases h; obtain ⟨i, h1, h2⟩ := info_three info39; exact ⟨_, i, Tryd.underlying39, rfl, h1, h2⟩
  · cases h; obtain ⟨i, h1, h2⟩ := info_three info40; exact ⟨_, i, Tryd.underlying40, rfl, h1, h2⟩
  · cases h; obtain ⟨i, h1, h2⟩ := info_three info41; exact ⟨_, i, Tryd.underlying41, rfl, h1, h2⟩
  · cases h; obtain ⟨i, h1, h2⟩ := info_three info42; exact ⟨_, i, Tryd.underlying42, rfl, h1, h2⟩
  · cases h; obtain ⟨i, h1, h2⟩ := info_three info43; exact ⟨_, i, Tryd.underlying43, rfl, h1, h2⟩
  · cases h; obtain ⟨i, h1, h2⟩ := info_three info44; exact ⟨_, i, Tryd.underlying44, rfl, h1, h2⟩
  · cases h; obtain ⟨i, h1, h2⟩ := info_three info45; exact ⟨_, i, Tryd.underlying45, rfl, h1, h2⟩
  · cases h; obtain ⟨i, h1, h2⟩ := info_three info46; exact ⟨_, i, Tryd.underlying46, rfl, h1, h2⟩
  · cases h; obtain ⟨i, h1, h2⟩ := info_three info47; exact ⟨_, i, Tryd.underlying47, rfl, h1, h2⟩
  · cases h; obtain ⟨i, h1, h2⟩ := info_three info48; exact ⟨_, i, Tryd.underlying48, rfl, h1, h2⟩
  · cases h; obtain ⟨i, h1, h2⟩ := info_three info50; exact ⟨_, i, Tryd.underlying50, rfl, h1, h2⟩
  · cases h; obtain ⟨i, h1, h2⟩ := info_three info51; exact ⟨_, i, Tryd.underlying51, rfl, h1, h2⟩
  · cases h; obtain ⟨i, h1, h2⟩ := info_three info52; exact ⟨_, i, Tryd.underlying52, rfl, h1, h2⟩
  · cases h; obtain ⟨i, h1, h2⟩ := info_three info53; exact ⟨_, i, Tryd.underlying53, rfl, h1, h2⟩
  · cases h; obtain ⟨i, h1, h2⟩ := info_three info55; exact ⟨_, i, Tryd.underlying55, rfl, h1, h2⟩
  · cases h; obtain ⟨i, h1, h2⟩ := info_three info56; exact ⟨_, i, Tryd.underlying56, rfl, h1, h2⟩
  · cases h; obtain ⟨i, h1, h2⟩ := info_three info57; exact ⟨_, i, Tryd.underlying57, rfl, h1, h2⟩
  · cases h; obtain ⟨i, h1, h2⟩ := info_three info58; exact ⟨_, i, Tryd.underlying58, rfl, h1, h2⟩
  · cases h; obtain ⟨i, h1, h2⟩ := info_three info59; exact ⟨_, i, Tryd.underlying59, rfl, h1, h2⟩
  · cases h; obtain ⟨i, h1, h2⟩ := info_three info60; exact ⟨_, i, Tryd.underlying60, rfl, h1, h2⟩
  · cases h; obtain ⟨i, h1, h2⟩ := info_three info61; exact ⟨_, i, Tryd.underlying61, rfl, h1, h2⟩
  · cases h; obtain ⟨i, h1, h2⟩ := info_three info62; exact ⟨_, i, Tryd.underlying62, rfl, h1, h2⟩
  · cases h; obtain ⟨i, h1, h2⟩ := info_three info64; exact ⟨_, i, Tryd.underlying64, rfl, h1, h2⟩
  · cases h; obtain ⟨i, h1, h2⟩ := info_three info65; exact ⟨_, i, Tryd.underlying65, rfl, h1, h2⟩
  · cases h; obtain ⟨i, h1, h2⟩ := info_three info66; exact ⟨_, i, Tryd.underlying66, rfl, h1, h2⟩
  · cases h; obtain ⟨i, h1, h2⟩ := info_three info67; exact ⟨_, i, Tryd.underlying67, rfl, h1, h2⟩
  · cases h; obtain ⟨i, h1, h2⟩ := info_three info68; exact ⟨_, i, Tryd.underlying68, rfl, h1, h2⟩
  · cases h; obtain ⟨i, h1, h2⟩ := info_three info69; exact ⟨_, i, Tryd.underlying69, rfl, h1, h2⟩
  · cases h; obtain ⟨i, h1, h2⟩ := info_three info71; exact ⟨_, i, Tryd.underlying71, rfl, h1, h2⟩
  · cases h; obtain ⟨i, h1, h2⟩ := info_three info72; exact ⟨_, i, Tryd.underlying72, rfl, h1, h2⟩
  · cases h; obtain ⟨i, h1, h2⟩ := info_three info73; exact ⟨_, i, Tryd.underlying73, rfl, h1, h2⟩
  · cases h; obtain ⟨i, h1, h2⟩ := info_three info74; exact ⟨_, i, Tryd.underlying74, rfl, h1, h2⟩
  · cases h; obtain ⟨i, h1, h2⟩ := info_three info75; exact ⟨_, i, Tryd.underlying75, rfl, h1, h2⟩
  · cases h; obtain ⟨i, h1, h2⟩ := info_three info76; exact ⟨_, i, Tryd.underlying76, rfl, h1, h2⟩
  · cases h; obtain ⟨i, h1, h2⟩ := info_three info77; exact ⟨_, i, Tryd.underlying77, rfl, h1, h2⟩
  · cases h; obtain ⟨i, h1, h2⟩ := info_three info78; exact ⟨_, i, Tryd.underlying78, rfl, h1, h2⟩
  · cases h; obtain ⟨i, h1, h2⟩ := info_three info79; exact ⟨_, i, Tryd.underlying79, rfl, h1, h2⟩
  · cases h; obtain ⟨i, h1, h2⟩ := info_three info80; exact ⟨_, i, Tryd.underlying80, rfl, h1, h2⟩
  · cases h; obtain ⟨i, h1, h2⟩ := info_three info81; exact ⟨_, i, Tryd.underlying81, rfl, h1, h2⟩
  · cases h; obtain ⟨i, h1, h2⟩ := info_three info82; exact ⟨_, i, Tryd.underlying82, rfl, h1, h2⟩
  · cases h; obtain ⟨i, h1, h2⟩ := info_three info83; exact ⟨_, i, Tryd.underlying83, rfl, h1, h2⟩
  · cases h; obtain ⟨i, h1, h2⟩ := info_three info84; exact ⟨_, i, Tryd.underlying84, rfl, h1, h2⟩
  · cases h; obtain ⟨i, h1, h2⟩ := info_three info85; exact ⟨_, i, Tryd.underlying85, rfl, h1, h2⟩
  · cases h; obtain ⟨i, h1, h2⟩ := info_three info86; exact ⟨_, i, Tryd.underlying86, rfl, h1, h2⟩
  · cases h; obtain ⟨i, h1, h2⟩ := info_three info87; exact ⟨_, i, Tryd.underlying87, rfl, h1, h2⟩
  · cases h; obtain ⟨i, h1, h2⟩ := info_three info88; exact ⟨_, i, Tryd.underlying88, rfl, h1, h2⟩
  · cases h; obtain ⟨i, h1, h2⟩ := info_three info89; exact ⟨_, i, Tryd.underlying89, rfl, h1, h2⟩
  · cases h; obtain ⟨i, h1, h2⟩ := info_three info90; exact ⟨_, i, Tryd.underlying90, rfl, h1, h2⟩
  · cases h; obtain ⟨i, h1, h2⟩ := info_three info91; exact ⟨_, i, Tryd.underlying91, rfl, h1, h2⟩
  · cases h; obtain ⟨i, h1, h2⟩ := info_three info92; exact ⟨_, i, Tryd.underlying92, rfl, h1, h2⟩
  · cases h; obtain ⟨i, h1, h2⟩ := info_three info93; exact ⟨_, i, Tryd.underlying93, rfl, h1, h2⟩
  · cases h; obtain ⟨i, h1, h2⟩ := info_three info94; exact ⟨_, i, Tryd.underlying94, rfl, h1, h2⟩
  · cases h; obtain ⟨i, h1, h2⟩ := info_three info95; exact ⟨_, i, Tryd.underlying95, rfl, h1, h2⟩
  · cases h; obtain ⟨i, h1, h2⟩ := info_three info96; exact ⟨_, i, Tryd.underlying96, rfl, h1, h2⟩
  · cases h; obtain ⟨i, h1, h2⟩ := info_three info97; exact ⟨_, i, Tryd.underlying97, rfl, h1, h2⟩
  · cases h; obtain ⟨i, h1, h2⟩ := info_three info98; exact ⟨_, i, Tryd.underlying98, rfl, h1, h2⟩
  · cases h; obtain ⟨i, h1, h2⟩ := info_three info99; exact ⟨_, i, Tryd.underlying99, rfl, h1, h2⟩
  · cases h; obtain ⟨i, h1, h2⟩ := info_three info100; exact ⟨_, i, Tryd.underlying100, rfl, h1, h2⟩
  · cases h; obtain ⟨i, h1, h2⟩ := info_three info101; exact ⟨_, i, Tryd.underlying101, rfl, h1, h2⟩
  · cases h; obtain ⟨i, h1, h2⟩ := info_three info105; exact ⟨_, i, Tryd.underlying105, rfl, h1, h2⟩
  · cases h; obtain ⟨i, h1, h2⟩ := info_three info106; exact ⟨_, i, Tryd.underlying106, rfl, h1, h2⟩
  · cases h; obtain ⟨i, h1, h2⟩ := info_three info107; exact ⟨_, i, Tryd.underlying107, rfl, h1, h2⟩
  · cases h; obtain ⟨i, h1, h2⟩ := info_three info108; exact ⟨_, i, Tryd.underlying108, rfl, h1, h2⟩
  · cases h; obtain ⟨i, h1, h2⟩ := info_three info109; exact ⟨_, i, Tryd.underlying109, rfl, h1, h2⟩
  · cases h; obtain ⟨i, h1, h2⟩ := info_three info111; exact ⟨_, i, Tryd.underlying111, rfl, h1, h2⟩
  · cases h; obtain ⟨i, h1, h2⟩ := info_three info112; exact ⟨_, i, Tryd.underlying112, rfl, h1, h2⟩
  · cases h; obtain ⟨i, h1, h2⟩ := info_three info113; exact ⟨_, i, Tryd.underlying113, rfl, h1, h2⟩
  · cases h; obtain ⟨i, h1, h2⟩ := info_three info114; exact ⟨_, i, Tryd.underlying114, rfl, h1, h2⟩
  · cases h; obtain ⟨i, h1, h2⟩ := info_three info115; exact ⟨_, i, Tryd.underlying115, rfl, h1, h2⟩
  · cases h; obtain ⟨i, h1, h2⟩ := info_three info116; exact ⟨_, i, Tryd.underlying116, rfl, h1, h2⟩
  · cases h; obtain ⟨i, h1, h2⟩ := info_three info117; exact ⟨_, i, Tryd.underlying117, rfl, h1, h2⟩
  · cases h; obtain ⟨i, h1, h2⟩ := info_three info118; exact ⟨_, i, Tryd.underlying118, rfl, h1, h2⟩
  · cases h; obtain ⟨i, h1, h2⟩ := info_three info119; exact ⟨_, i, Tryd.underlying119, rfl, h1, h2⟩
  · cases h; obtain ⟨i, h1, h2⟩ := info_three info120; exact ⟨_, i, Tryd.underlying120, rfl, h1, h2⟩
  · cases h; obtain ⟨i, h1, h2⟩ := info_three info121; exact ⟨_, i, Tryd.underlying121, rfl, h1, h2⟩
  · cases h; obtain ⟨i, h1, h2⟩ := info_three info122; exact ⟨_, i, Tryd.underlying122, rfl, h1, h2⟩
  · cases h; obtain ⟨i, h1, h2⟩ := info_three info123; exact ⟨_, i, Tryd.underlying123, rfl, h1, h2⟩
  · cases h; obtain ⟨i, h1, h2⟩ := info_three info124; exact ⟨_, i, Tryd.underlying124, rfl, h1, h2⟩
  · cases h; obtain ⟨i, h1, h2⟩ := info_three info126; exact ⟨_, i, Tryd.underlying126, rfl, h1, h2⟩
  · cases h; obtain ⟨i, h1, h2⟩ := info_three info127; exact ⟨_, i, Tryd.underlying127, rfl, h1, h2⟩
  · cases h; obtain ⟨i, h1, h2⟩ := info_three info129; exact ⟨_, i, Tryd.underlying129, rfl, h1, h2⟩
  · cases h; obtain ⟨i, h1, h2⟩ := info_three info131; exact ⟨_, i, Tryd.underlying131, rfl, h1, h2⟩
  · cases h; obtain ⟨i, h1, h2⟩ := info_three info132; exact ⟨_, i, Tryd.underlying132, rfl, h1, h2⟩
  · cases h; obtain ⟨i, h1, h2⟩ := info_three info133; exact ⟨_, i, Tryd.underlying133, rfl, h1, h2⟩
  · cases h; obtain ⟨i, h1, h2⟩ := info_three info135; exact ⟨_, i, Tryd.underlying135, rfl, h1, h2⟩
  · cases h; obtain ⟨i, h1, h2⟩ := info_three info136; exact ⟨_, i, Tryd.underlying136, rfl, h1, h2⟩
  · cases h; obtain ⟨i, h1, h2⟩ := info_three info138; exact ⟨_, i, Tryd.underlying138, rfl, h1, h2⟩
  · cases h; obtain ⟨i, h1, h2⟩ := info_three info139; exact ⟨_, i, Tryd.underlying139, rfl, h1, h2⟩
  · cases h; obtain ⟨i, h1, h2⟩ := info_three info141; exact ⟨_, i, Tryd.underlying141, rfl, h1, h2⟩
  · cases h; obtain ⟨i, h1, h2⟩ := info_three info142; exact ⟨_, i, Tryd.underlying142, rfl, h1, h2⟩
  · cases h; obtain ⟨i, h1, h2⟩ := info_three info143; exact ⟨_, i, Tryd.underlying143, rfl, h1, h2⟩
  · cases h; obtain ⟨i, h1, h2⟩ := info_three info144; exact ⟨_, i, Tryd.underlying144, rfl, h1, h2⟩
  · cases h; obtain ⟨i, h1, h2⟩ := info_three info145; exact ⟨_, i, Tryd.underlying145, rfl, h1, h2⟩
  · cases h; obtain ⟨i, h1, h2⟩ := info_three info146; exact ⟨_, i, Tryd.underlying146, rfl, h1, h2⟩
  · cases h; obtain ⟨i, h1, h2⟩ := info_three info148; exact ⟨_, i, Tryd.underlying148, rfl, h1, h2⟩
  · cases h; obtain ⟨i, h1, h2⟩ := info_three info149; exact ⟨_, i, Tryd.underlying149, rfl, h1, h2⟩
  · cases h; obtain ⟨i, h1, h2⟩ := info_three info150; exact ⟨_, i, Tryd.underlying150, rfl, h1, h2⟩
  · cases h; obtain ⟨i, h1, h2⟩ := info_three info152; exact ⟨_, i, Tryd.underlying152, rfl, h1, h2⟩
  · cases h; obtain ⟨i, h1, h2⟩ := info_three info153; exact ⟨_, i, Tryd.underlying153, rfl, h1, h2⟩
  · cases h; obtain ⟨i, h1, h2⟩ := info_three info154; exact ⟨_, i, Tryd.underlying154, rfl, h1, h2⟩
  · cases h; obtain ⟨i, h1, h2⟩ := info_three info155; exact ⟨_, i, Tryd.underlying155, rfl, h1, h2⟩
  · cases h; obtain ⟨i, h1, h2⟩ := info_three info158; exact ⟨_, i, Tryd.underlying158, rfl, h1, h2⟩
  · cases h; obtain ⟨i, h1, h2⟩ := info_three info159; exact ⟨_, i, Tryd.underlying159, rfl, h1, h2⟩
  · cases h; obtain ⟨i, h1, h2⟩ := info_three info160; exact ⟨_, i, Tryd.underlying160, rfl, h1, h2⟩
  · cases h; obtain ⟨i, h1, h2⟩ := info_three info161; exact ⟨_, i, Tryd.underlying161, rfl, h1, h2⟩
  · cases h; obtain ⟨i, h1, h2⟩ := info_three info162; exact ⟨_, i, Tryd.underlying162, rfl, h1, h2⟩
  · cases h; obtain ⟨i, h1, h2⟩ := info_three info163; exact ⟨_, i, Tryd.underlying163, rfl, h1, h2⟩
  · cases h; obtain ⟨i, h1, h2⟩ := info_three info164; exact ⟨_, i, Tryd.underlying164, rfl, h1, h2⟩
  · cases h; obtain ⟨i, h1, h2⟩ := info_three info165; exact ⟨_, i, Tryd.underlying165, rfl, h1, h2⟩
  · cases h; obtain ⟨i, h1, h2⟩ := info_three info166; exact ⟨_, i, Tryd.underlying166, rfl, h1, h2⟩
  · cases h; obtain ⟨i, h1, h2⟩ := info_three info167; exact ⟨_, i, Tryd.underlying167, rfl, h1, h2⟩
  · cases h; obtain ⟨i, h1, h2⟩ := info_three info168; exact ⟨_, i, Tryd.underlying168, rfl, h1, h2⟩
  · cases h; obtain ⟨i, h1, h2⟩ := info_three info169; exact ⟨_, i, Tryd.underlying169, rfl, h1, h2⟩
  · cases h; obtain ⟨i, h1, h2⟩ := info_three info170; exact ⟨_, i, Tryd.underlying170, rfl, h1, h2⟩
  · cases h; obtain ⟨i, h1, h2⟩ := info_three info172; exact ⟨_, i, Tryd.underlying172, rfl, h1, h2⟩
  · cases h; obtain ⟨i, h1, h2⟩ := info_three info173; exact ⟨_, i, Tryd.underlying173, rfl, h1, h2⟩
  · cases h; obtain ⟨i, h1, h2⟩ := info_three info175; exact ⟨_, i, Tryd.underlying175, rfl, h1, h2⟩
  · cases h; obtain ⟨i, h1, h2⟩ := info_three info176; exact ⟨_, i, Tryd.underlying176, rfl, h1, h2⟩
  · cases h; obtain ⟨i, h1, h2⟩ := info_three info177; exact ⟨_, i, Tryd.underlying177, rfl, h1, h2⟩
  · cases h; obtain ⟨i, h1, h2⟩ := info_three info178; exact ⟨_, i, Tryd.underlying178, rfl, h1, h2⟩
  · cases h; obtain ⟨i, h1, h2⟩ := info_three info180; exact ⟨_, i, Tryd.underlying180, rfl, h1, h2⟩
  · cases h; obtain ⟨i, h1, h2⟩ := info_three info183; exact ⟨_, i, Tryd.underlying183, rfl, h1, h2⟩
  · cases h; obtain ⟨i, h1, h2⟩ := info_three info184; exact ⟨_, i, Tryd.underlying184, rfl, h1, h2⟩
  · cases h; obtain ⟨i, h1, h2⟩ := info_three info188; exact ⟨_, i, Tryd.underlying188, rfl, h1, h2⟩
  · cases h; obtain ⟨i, h1, h2⟩ := info_three info189; exact ⟨_, i, Tryd.underlying189, rfl, h1, h2⟩
  · cases h; obtain ⟨i, h1, h2⟩ := info_three info190; exact ⟨_, i, Tryd.underlying190, rfl, h1, h2⟩
  · cases h; obtain ⟨i, h1, h2⟩ := info_three info191; exact ⟨_, i, Tryd.underlying191, rfl, h1, h2⟩
  · cases h; obtain ⟨i, h1, h2⟩ := info_three info192; exact ⟨_, i, Tryd.underlying192, rfl, h1, h2⟩
  · cases h; obtain ⟨i, h1, h2⟩ := info_three info193; exact ⟨_, i, Tryd.underlying193, rfl, h1, h2⟩
  · cases h; obtain ⟨i, h1, h2⟩ := info_three info194; exact ⟨_, i, Tryd.underlying194, rfl, h1, h2⟩
  · cases h; obtain ⟨i, h1, h2⟩ := info_three info195; exact ⟨_, i, Tryd.underlying195, rfl, h1, h2⟩
  · cases h
theorem env_fld : ∀ t f o, eFld t f = some o → ∃ fs fl i, Tryd.prog.underlying t = some (.struct fs) ∧ fs[f]? = some fl ∧ fl.offset = o ∧ Tryd.prog.info? fl.type = some i ∧ i.size ≠ 0 := by
  intro t f o h
  unfold eFld at h
  split at h
  · cases h; obtain ⟨i, h1, h2⟩ := info_three info24; exact ⟨_, _, i, Tryd.underlying25, rfl, rfl, h1, by rw [h2]; decide⟩
  · cases h; obtain ⟨i, h1, h2⟩ := info_three info24; exact ⟨_, _, i, Tryd.underlying25, rfl, rfl, h1, by rw [h2]; decide⟩
  · cases h; obtain ⟨i, h1, h2⟩ := info_three info24; exact ⟨_, _, i, Tryd.underlying26, rfl, rfl, h1, by rw [h2]; decide⟩
  · cases h; obtain ⟨i, h1, h2⟩ := info_three info24; exact ⟨_, _, i, Tryd.underlying26, rfl, rfl, h1, by rw [h2]; decide⟩
  · cases h; obtain ⟨i, h1, h2⟩ := info_three info41; exact ⟨_, _, i, Tryd.underlying42, rfl, rfl, h1, by rw [h2]; decide⟩
  · cases h; obtain ⟨i, h1, h2⟩ := info_three info41; exact ⟨_, _, i, Tryd.underlying43, rfl, rfl, h1, by rw [h2]; decide⟩
  · cases h; obtain ⟨i, h1, h2⟩ := info_three info2; exact ⟨_, _, i, Tryd.underlying45, rfl, rfl, h1, by rw [h2]; decide⟩
  · cases h; obtain ⟨i, h1, h2⟩ := info_three info2; exact ⟨_, _, i, Tryd.underlying45, rfl, rfl, h1, by rw [h2]; decide⟩
  · cases h; obtain ⟨i, h1, h2⟩ := info_three info2; exact ⟨_, _, i, Tryd.underlying46, rfl, rfl, h1, by rw [h2]; decide⟩
  · cases h; obtain ⟨i, h1, h2⟩ := info_three info2; exact ⟨_, _, i, Tryd.underlying46, rfl, rfl, h1, by rw [h2]; decide⟩
  · cases h; obtain ⟨i, h1, h2⟩ := info_three info22; exact ⟨_, _, i, Tryd.underlying86, rfl, rfl, h1, by rw [h2]; decide⟩
  · cases h; obtain ⟨i, h1, h2⟩ := info_three info3; exact ⟨_, _, i, Tryd.underlying86, rfl, rfl, h1, by rw [h2]; decide⟩
  · cases h; obtain ⟨i, h1, h2⟩ := info_three info85; exact ⟨_, _, i, Tryd.underlying86, rfl, rfl, h1, by rw [h2]; decide⟩
  · cases h; obtain ⟨i, h1, h2⟩ := info_three info22; exact ⟨_, _, i, Tryd.underlying87, rfl, rfl, h1, by rw [h2]; decide⟩
  · cases h; obtain ⟨i, h1, h2⟩ := info_three info3; exact ⟨_, _, i, Tryd.underlying87, rfl, rfl, h1, by rw [h2]; decide⟩
  · cases h; obtain ⟨i, h1, h2⟩ := info_three info85; exact ⟨_, _, i, Tryd.underlying87, rfl, rfl, h1, by rw [h2]; decide⟩
  · cases h
theorem env_zero : ∀ t cs, eZero t = some cs → ∃ i z, Tryd.prog.info? t = some i ∧ i.zero = some z ∧ z.cells.toList = cs := by
  intro t cs h
  unfold eZero at h
  split at h
  · cases h; obtain ⟨i, h1, h2, _⟩ := info_parts info1; exact ⟨i, _, h1, h2, rfl⟩
  · cases h; obtain ⟨i, h1, h2, _⟩ := info_parts info2; exact ⟨i, _, h1, h2, rfl⟩
  · cases h; obtain ⟨i, h1, h2, _⟩ := info_parts info3; exact ⟨i, _, h1, h2, rfl⟩
  · cases h; obtain ⟨i, h1, h2, _⟩ := info_parts info4; exact ⟨i, _, h1, h2, rfl⟩
  · cases h; obtain ⟨i, h1, h2, _⟩ := info_parts info5; exact ⟨i, _, h1, h2, rfl⟩
  · cases h; obtain ⟨i, h1, h2, _⟩ := info_parts info6; exact ⟨i, _, h1, h2, rfl⟩
  · cases h; obtain ⟨i, h1, h2, _⟩ := info_parts info7; exact ⟨i, _, h1, h2, rfl⟩
  · cases h; obtain ⟨i, h1, h2, _⟩ := info_parts info8; exact ⟨i, _, h1, h2, rfl⟩
  · cases h; obtain ⟨i, h1, h2, _⟩ := info_parts info9; exact ⟨i, _, h1, h2, rfl⟩
  · cases h; obtain ⟨i, h1, h2, _⟩ := info_parts info10; exact ⟨i, _, h1, h2, rfl⟩
  · cases h; obtain ⟨i, h1, h2, _⟩ := info_parts info11; exact ⟨i, _, h1, h2, rfl⟩
  · cases h; obtain ⟨i, h1, h2, _⟩ := info_parts info12; exact ⟨i, _, h1, h2, rfl⟩
  · cases h; obtain ⟨i, h1, h2, _⟩ := info_parts info13; exact ⟨i, _, h1, h2, rfl⟩
  · cases h; obtain ⟨i, h1, h2, _⟩ := info_parts info14; exact ⟨i, _, h1, h2, rfl⟩
  · cases h; obtain ⟨i, h1, h2, _⟩ := info_parts info15; exact ⟨i, _, h1, h2, rfl⟩
  · cases h; obtain ⟨i, h1, h2, _⟩ := info_parts info16; exact ⟨i, _, h1, h2, rfl⟩
  · cases h; obtain ⟨i, h1, h2, _⟩ := info_parts info17; exact ⟨i, _, h1, h2, rfl⟩
  · cases h; obtain ⟨i, h1, h2, _⟩ := info_parts info18; exact ⟨i, _, h1, h2, rfl⟩
  · cases h; obtain ⟨i, h1, h2, _⟩ := info_parts info19; exact ⟨i, _, h1, h2, rfl⟩
  · cases h; obtain ⟨i, h1, h2, _⟩ := info_parts info21; exact ⟨i, _, h1, h2, rfl⟩
  · cases h; obtain ⟨i, h1, h2, _⟩ := info_parts info22; exact ⟨i, _, h1, h2, rfl⟩
  · cases h; obtain ⟨i, h1, h2, _⟩ := info_parts info23; exact ⟨i, _, h1, h2, rfl⟩
  · cases h; obtain ⟨i, h1, h2, _⟩ := info_parts info24; exact ⟨i, _, h1, h2, rfl⟩
  · cases h; obtain ⟨i, h1, h2, _⟩ := info_parts info25; exact ⟨i, _, h1, h2, rfl⟩
  · cases h; obtain ⟨i, h1, h2, _⟩ := info_parts info26; exact ⟨i, _, h1, h2, rfl⟩
  · cases h; obtain ⟨i, h1, h2, _⟩ := info_parts info27; exact ⟨i, _, h1, h2, rfl⟩
  · cases h; obtain ⟨i, h1, h2, _⟩ := info_parts info29; exact ⟨i, _, h1, h2, rfl⟩
  · cases h; obtain ⟨i, h1, h2, _⟩ := info_parts info31; exact ⟨i, _, h1, h2, rfl⟩
  · cases h; obtain ⟨i, h1, h2, _⟩ := info_parts info33; exact ⟨i, _, h1, h2, rfl⟩
  · cases h; obtain ⟨i, h1, h2, _⟩ := info_parts info35; exact ⟨i, _, h1, h2, rfl⟩
  · cases h; obtain ⟨i, h1, h2, _⟩ := info_parts info36; exact ⟨i, _, h1, h2, rfl⟩
  · cases h; obtain ⟨i, h1, h2, _⟩ := info_parts info37; exact ⟨i, _, h1, h2, rfl⟩
  · cases h; obtain ⟨i, h1, h2, _⟩ := info_parts info39; exact ⟨i, _, h1, h2, rfl⟩
  · cases h; obtain ⟨i, h1, h2, _⟩ := info_parts info40; exact ⟨i, _, h1, h2, rfl⟩
  · cases h; obtain ⟨i, h1, h2, _⟩ := info_parts info41; exact ⟨i, _, h1, h2, rfl⟩
  · cases h; obtain ⟨i, h1, h2, _⟩ := info_parts info42; exact ⟨i, _, h1, h2, rfl⟩
  · cases h; obtain ⟨i, h1, h2, _⟩ := info_parts info43; exact ⟨i, _, h1, h2, rfl⟩
  · cases h; obtain ⟨i, h1, h2, _⟩ := info_parts info44; exact ⟨i, _, h1, h2, rfl⟩
  · cases h; obtain ⟨i, h1, h2, _⟩ := info_parts info45; exact ⟨i, _, h1, h2, rfl⟩
  · cases h; obtain ⟨i, h1, h2, _⟩ := info_parts info46; exact ⟨i, _, h1, h2, rfl⟩
  · cases h; obtain ⟨i, h1, h2, _⟩ := info_parts info47; exact ⟨i, _, h1, h2, rfl⟩
  · cases h; obtain ⟨i, h1, h2, _⟩ := info_parts info48; exact ⟨i, _, h1, h2, rfl⟩
  · cases h; obtain ⟨i, h1, h2, _⟩ := info_parts info50; exact ⟨i, _, h1, h2, rfl⟩
  · cases h; obtain ⟨i, h1, h2, _⟩ := info_parts info51; exact ⟨i, _, h1, h2, rfl⟩
  · cases h; obtain ⟨i, h1, h2, _⟩ := info_parts info52; exact ⟨i, _, h1, h2, rfl⟩
  · cases h; obtain ⟨i, h1, h2, _⟩ := info_parts info53; exact ⟨i, _, h1, h2, rfl⟩
  · cases h; obtain ⟨i, h1, h2, _⟩ := info_parts info55; exact ⟨i, _, h1, h2, rfl⟩
  · cases h; obtain ⟨i, h1, h2, _⟩ := info_parts info56; exact ⟨i, _, h1, h2, rfl⟩
  · cases h; obtain ⟨i, h1, h2, _⟩ := info_parts info57; exact ⟨i, _, h1, h2, rfl⟩
  · cases h; obtain ⟨i, h1, h2, _⟩ := info_parts info58; exact ⟨i, _, h1, h2, rfl⟩
  · cases h; obtain ⟨i, h1, h2, _⟩ := info_parts info59; exact ⟨i, _, h1, h2, rfl⟩
  · cases h; obtain ⟨i, h1, h2, _⟩ := info_parts info60; exact ⟨i, _, h1, h2, rfl⟩
  · cases h; obtain ⟨i, h1, h2, _⟩ := info_parts info61; exact ⟨i, _, h1, h2, rfl⟩
  · cases h; obtain ⟨i, h1, h2, _⟩ := info_parts info62; exact ⟨i, _, h1, h2, rfl⟩
  · cases h; obtain ⟨i, h1, h2, _⟩ := info_parts info64; exact ⟨i, _, h1, h2, rfl⟩
  · cases h; obtain ⟨i, h1, h2, _⟩ := info_parts info65; exact ⟨i, _, h1, h2, rfl⟩
  · cases h; obtain ⟨i, h1, h2, _⟩ := info_parts info66; exact ⟨i, _, h1, h2, rfl⟩
  · cases h; obtain ⟨i, h1, h2, _⟩ := info_parts info67; exact ⟨i, _, h1, h2, rfl⟩
  · cases h; obtain ⟨i, h1, h2, _⟩ := info_parts info68; exact ⟨i, _, h1, h2, rfl⟩
  · cases h; obtain ⟨i, h1, h2, _⟩ := info_parts info69; exact ⟨i, _, h1, h2, rfl⟩
  · cases h; obtain ⟨i, h1, h2, _⟩ := info_parts info71; exact ⟨i, _, h1, h2, rfl⟩
  · cases h; obtain ⟨i, h1, h2, _⟩ := info_parts info72; exact ⟨i, _, h1, h2, rfl⟩
  · cases h; obtain ⟨i, h1, h2, _⟩ := info_parts info73; exact ⟨i, _, h1, h2, rfl⟩
  · cases h; obtain ⟨i, h1, h2, _⟩ := info_parts info74; exact ⟨i, _, h1, h2, rfl⟩
  · cases h; obtain ⟨i, h1, h2, _⟩ := info_parts info75; exact ⟨i, _, h1, h2, rfl⟩
  · cases h; obtain ⟨i, h1, h2, _⟩ := info_parts info76; exact ⟨i, _, h1, h2, rfl⟩
  · cases h; obtain ⟨i, h1, h2, _⟩ := info_parts info77; exact ⟨i, _, h1, h2, rfl⟩
  · cases h; obtain ⟨i, h1, h2, _⟩ := info_parts info78; exact ⟨i, _, h1, h2, rfl⟩
  · cases h; obtain ⟨i, h1, h2, _⟩ := info_parts info79; exact ⟨i, _, h1, h2, rfl⟩
  · cases h; obtain ⟨i, h1, h2, _⟩ := info_parts info80; exact ⟨i, _, h1, h2, rfl⟩
  · cases h; obtain ⟨i, h1, h2, _⟩ := info_parts info81; exact ⟨i, _, h1, h2, rfl⟩
  · cases h; obtain ⟨i, h1, h2, _⟩ := info_parts info82; exact ⟨i, _, h1, h2, rfl⟩
  · cases h; obtain ⟨i, h1, h2, _⟩ := info_parts info83; exact ⟨i, _, h1, h2, rfl⟩
  · cases h; obtain ⟨i, h1, h2, _⟩ := info_parts info84; exact ⟨i, _, h1, h2, rfl⟩
  · cases h; obtain ⟨i, h1, h2, _⟩ := info_parts info85; exact ⟨i, _, h1, h2, rfl⟩
  · cases h; obtain ⟨i, h1, h2, _⟩ := info_parts info86; exact ⟨i, _, h1, h2, rfl⟩
  · cases h; obtain ⟨i, h1, h2, _⟩ := info_parts info87; exact ⟨i, _, h1, h2, rfl⟩
  · cases h; obtain ⟨i, h1, h2, _⟩ := info_parts info88; exact ⟨i, _, h1, h2, rfl⟩
  · cases h; obtain ⟨i, h1, h2, _⟩ := info_parts info89; exact ⟨i, _, h1, h2, rfl⟩
  · cases h; obtain ⟨i, h1, h2, _⟩ := info_parts info90; exact ⟨i, _, h1, h2, rfl⟩
  · cases h; obtain ⟨i, h1, h2, _⟩ := info_parts info91; exact ⟨i, _, h1, h2, rfl⟩
  · cases h; obtain ⟨i, h1, h2, _⟩ := info_parts info92; exact ⟨i, _, h1, h2, rfl⟩
  · cases h; obtain ⟨i, h1, h2, _⟩ := info_parts info93; exact ⟨i, _, h1, h2, rfl⟩
  · cases h; obtain ⟨i, h1, h2, _⟩ := info_parts info94; exact ⟨i, _, h1, h2, rfl⟩
  · cases h; obtain ⟨i, h1, h2, _⟩ := info_parts info95; exact ⟨i, _, h1, h2, rfl⟩
  · cases h; obtain ⟨i, h1, h2, _⟩ := info_parts info96; exact ⟨i, _, h1, h2, rfl⟩
  · cases h; obtain ⟨i, h1, h2, _⟩ := info_parts info97; exact ⟨i, _, h1, h2, rfl⟩
  · cases h; obtain ⟨i, h1, h2, _⟩ := info_parts info98; exact ⟨i, _, h1, h2, rfl⟩
  · cases h; obtain ⟨i, h1, h2, _⟩ := info_parts info99; exact ⟨i, _, h1, h2, rfl⟩
  · cases h; obtain ⟨i, h1, h2, _⟩ := info_parts info100; exact ⟨i, _, h1, h2, rfl⟩
  · cases h; obtain ⟨i, h1, h2, _⟩ := info_parts info101; exact ⟨i, _, h1, h2, rfl⟩
  · cases h; obtain ⟨i, h1, h2, _⟩ := info_parts info105; exact ⟨i, _, h1, h2, rfl⟩
  · cases h; obtain ⟨i, h1, h2, _⟩ := info_parts info106; exact ⟨i, _, h1, h2, rfl⟩
  · cases h; obtain ⟨i, h1, h2, _⟩ := info_parts info107; exact ⟨i, _, h1, h2, rfl⟩
  · cases h; obtain ⟨i, h1, h2, _⟩ := info_parts info108; exact ⟨i, _, h1, h2, rfl⟩
  · cases h; obtain ⟨i, h1, h2, _⟩ := info_parts info109; exact ⟨i, _, h1, h2, rfl⟩
  · cases h; obtain ⟨i, h1, h2, _⟩ := info_parts info111; exact ⟨i, _, h1, h2, rfl⟩
  · cases h; obtain ⟨i, h1, h2, _⟩ := info_parts info112; exact ⟨i, _, h1, h2, rfl⟩
  · cases h; obtain ⟨i, h1, h2, _⟩ := info_parts info113; exact ⟨i, _, h1, h2, rfl⟩
  · cases h; obtain ⟨i, h1, h2, _⟩ := info_parts info114; exact ⟨i, _, h1, h2, rfl⟩
  · cases h; obtain ⟨i, h1, h2, _⟩ := info_parts info115; exact ⟨i, _, h1, h2, rfl⟩
  · cases h; obtain ⟨i, h1, h2, _⟩ := info_parts info116; exact ⟨i, _, h1, h2, rfl⟩
  · cases h; obtain ⟨i, h1, h2, _⟩ := info_parts info117; exact ⟨i, _, h1, h2, rfl⟩
  · cases h; obtain ⟨i, h1, h2, _⟩ := info_parts info118; exact ⟨i, _, h1, h2, rfl⟩
  · cases h; obtain ⟨i, h1, h2, _⟩ := info_parts info119; exact ⟨i, _, h1, h2, rfl⟩
  · cases h; obtain ⟨i, h1, h2, _⟩ := info_parts info120; exact ⟨i, _, h1, h2, rfl⟩
  · cases h; obtain ⟨i, h1, h2, _⟩ := info_parts info121; exact ⟨i, _, h1, h2, rfl⟩
  · cases h; obtain ⟨i, h1, h2, _⟩ := info_parts info122; exact ⟨i, _, h1, h2, rfl⟩
  · cases h; obtain ⟨i, h1, h2, _⟩ := info_parts info123; exact ⟨i, _, h1, h2, rfl⟩
  · cases h; obtain ⟨i, h1, h2, _⟩ := info_parts info124; exact ⟨i, _, h1, h2, rfl⟩
  · cases h; obtain ⟨i, h1, h2, _⟩ := info_parts info126; exact ⟨i, _, h1, h2, rfl⟩
  · cases h; obtain ⟨i, h1, h2, _⟩ := info_parts info127; exact ⟨i, _, h1, h2, rfl⟩
  · cases h; obtain ⟨i, h1, h2, _⟩ := info_parts info129; exact ⟨i, _, h1, h2, rfl⟩
  · cases h; obtain ⟨i, h1, h2, _⟩ := info_parts info131; exact ⟨i, _, h1, h2, rfl⟩
  · cases h; obtain ⟨i, h1, h2, _⟩ := info_parts info132; exact ⟨i, _, h1, h2, rfl⟩
  · cases h; obtain ⟨i, h1, h2, _⟩ := info_parts info133; exact ⟨i, _, h1, h2, rfl⟩
  · cases h; obtain ⟨i, h1, h2, _⟩ := info_parts info135; exact ⟨i, _, h1, h2, rfl⟩
  · cases h; obtain ⟨i, h1, h2, _⟩ := info_parts info136; exact ⟨i, _, h1, h2, rfl⟩
  · cases h; obtain ⟨i, h1, h2, _⟩ := info_parts info138; exact ⟨i, _, h1, h2, rfl⟩
  · cases h; obtain ⟨i, h1, h2, _⟩ := info_parts info139; exact ⟨i, _, h1, h2, rfl⟩
  · cases h; obtain ⟨i, h1, h2, _⟩ := info_parts info141; exact ⟨i, _, h1, h2, rfl⟩
  · cases h; obtain ⟨i, h1, h2, _⟩ := info_parts info142; exact ⟨i, _, h1, h2, rfl⟩
  · cases h; obtain ⟨i, h1, h2, _⟩ := info_parts info143; exact ⟨i, _, h1, h2, rfl⟩
  · cases h; obtain ⟨i, h1, h2, _⟩ := info_parts info144; exact ⟨i, _, h1, h2, rfl⟩
  · cases h; obtain ⟨i, h1, h2, _⟩ := info_parts info145; exact ⟨i, _, h1, h2, rfl⟩
  · cases h; obtain ⟨i, h1, h2, _⟩ := info_parts info146; exact ⟨i, _, h1, h2, rfl⟩
  · cases h; obtain ⟨i, h1, h2, _⟩ := info_parts info148; exact ⟨i, _, h1, h2, rfl⟩
  · cases h; obtain ⟨i, h1, h2, _⟩ := info_parts info149; exact ⟨i, _, h1, h2, rfl⟩
  · cases h; obtain ⟨i, h1, h2, _⟩ := info_parts info150; exact ⟨i, _, h1, h2, rfl⟩
  · cases h; obtain ⟨i, h1, h2, _⟩ := info_parts info152; exact ⟨i, _, h1, h2, rfl⟩
  · cases h; obtain ⟨i, h1, h2, _⟩ := info_parts info153; exact ⟨i, _, h1, h2, rfl⟩
  · cases h; obtain ⟨i, h1, h2, _⟩ := info_parts info154; exact ⟨i, _, h1, h2, rfl⟩
  · cases h; obtain ⟨i, h1, h2, _⟩ := info_parts info155; exact ⟨i, _, h1, h2, rfl⟩
  · cases h; obtain ⟨i, h1, h2, _⟩ := info_parts info158; exact ⟨i, _, h1, h2, rfl⟩
  · cases h; obtain ⟨i, h1, h2, _⟩ := info_parts info159; exact ⟨i, _, h1, h2, rfl⟩
  · cases h; obtain ⟨i, h1, h2, _⟩ := info_parts info160; exact ⟨i, _, h1, h2, rfl⟩
  · cases h; obtain ⟨i, h1, h2, _⟩ := info_parts info161; exact ⟨i, _, h1, h2, rfl⟩
  · cases h; obtain ⟨i, h1, h2, _⟩ := info_parts info162; exact ⟨i, _, h1, h2, rfl⟩
  · cases h; obtain ⟨i, h1, h2, _⟩ := info_parts info163; exact ⟨i, _, h1, h2, rfl⟩
  · cases h; obtain ⟨i, h1, h2, _⟩ := info_parts info164; exact ⟨i, _, h1, h2, rfl⟩
  · cases h; obtain ⟨i, h1, h2, _⟩ := info_parts info165; exact ⟨i, _, h1, h2, rfl⟩
  · cases h; obtain ⟨i, h1, h2, _⟩ := info_parts info166; exact ⟨i, _, h1, h2, rfl⟩
  · cases h; obtain ⟨i, h1, h2, _⟩ := info_parts info167; exact ⟨i, _, h1, h2, rfl⟩
  · cases h; obtain ⟨i, h1, h2, _⟩ := info_parts info168; exact ⟨i, _, h1, h2, rfl⟩
  · cases h; obtain ⟨i, h1, h2, _⟩ := info_parts info169; exact ⟨i, _, h1, h2, rfl⟩
  · cases h; obtain ⟨i, h1, h2, _⟩ := info_parts info170; exact ⟨i, _, h1, h2, rfl⟩
  · cases h; obtain ⟨i, h1, h2, _⟩ := info_parts info172; exact ⟨i, _, h1, h2, rfl⟩
  · cases h; obtain ⟨i, h1, h2, _⟩ := info_parts info173; exact ⟨i, _, h1, h2, rfl⟩
  · cases h; obtain ⟨i, h1, h2, _⟩ := info_parts info175; exact ⟨i, _, h1, h2, rfl⟩
  · cases h; obtain ⟨i, h1, h2, _⟩ := info_parts info176; exact ⟨i, _, h1, h2, rfl⟩
  · cases h; obtain ⟨i, h1, h2, _⟩ := info_parts info177; exact ⟨i, _, h1, h2, rfl⟩
  · cases h; obtain ⟨i, h1, h2, _⟩ := info_parts info178; exact ⟨i, _, h1, h2, rfl⟩
  · cases h; obtain ⟨i, h1, h2, _⟩ := info_parts info180; exact ⟨i, _, h1, h2, rfl⟩
  · cases h; obtain ⟨i, h1, h2, _⟩ := info_parts info183; exact ⟨i, _, h1, h2, rfl⟩
  · cases h; obtain ⟨i, h1, h2, _⟩ := info_parts info184; exact ⟨i, _, h1, h2, rfl⟩
  · cases h; obtain ⟨i, h1, h2, _⟩ := info_parts info188; exact ⟨i, _, h1, h2, rfl⟩
  · cases h; obtain ⟨i, h1, h2, _⟩ := info_parts info189; exact ⟨i, _, h1, h2, rfl⟩
  · cases h; obtain ⟨i, h1, h2, _⟩ := info_parts info190; exact ⟨i, _, h1, h2, rfl⟩
  · cases h; obtain ⟨i, h1, h2, _⟩ := info_parts info191; exact ⟨i, _, h1, h2, rfl⟩
  · cases h; obtain ⟨i, h1, h2, _⟩ := info_parts info192; exact ⟨i, _, h1, h2, rfl⟩
  · cases h; obtain ⟨i, h1, h2, _⟩ := info_parts info193; exact ⟨i, _, h1, h2, rfl⟩
  · cases h; obtain ⟨i, h1, h2, _⟩ := info_parts info194; exact ⟨i, _, h1, h2, rfl⟩
  · cases h; obtain ⟨i, h1, h2, _⟩ := info_parts info195; exact ⟨i, _, h1, h2, rfl⟩
  · cases h
theorem env_knd : ∀ t d, eKnd t = some d → Tryd.prog.underlying t = some d := by
  intro t d h
  unfold eKnd at h
  split at h
  · cases h; exact Tryd.underlying2
  · cases h; exact Tryd.underlying3
  · cases h; exact Tryd.underlying4
  · cases h; exact Tryd.underlying5
  · cases h; exact Tryd.underlying6
  · cases h; exact Tryd.underlying9
  · cases h; exact Tryd.underlying10
  · cases h; exact Tryd.underlying11
  · cases h; exact Tryd.underlying12
  · cases h; exact Tryd.underlying21
  · cases h; exact Tryd.underlying85
  · cases h; exact Tryd.underlying108
  · cases h; exact Tryd.underlying136
  · cases h; exact Tryd.underlying139
  · cases h; exact Tryd.underlying146
  · cases h; exact Tryd.underlying165
  · cases h; exact Tryd.underlying189
  · cases h; exact Tryd.underlying190
  · cases h; exact Tryd.underlying192
  · cases h; exact Tryd.underlying193
  · cases h
theorem env_bld : ∀ t l, eBld t = some l → ∀ (parts : Array (Nat × Value)) w, ∃ i z, Tryd.prog.info? t = some i ∧ i.zero = some z ∧
    ∀ cells, Instr.fill (fun k => l[k]?) z.cells parts.toList = some cells → (Instr.build t parts).run Tryd.prog w = .ok (.agg cells) w := by
  intro t l h parts w
  unfold eBld at h
  split at h
  · cases h; obtain ⟨i, h1, h2, _⟩ := info_parts info7; exact ⟨i, _, h1, h2, build_run h1 h2 Tryd.underlying7 (fun w => by kernel_rfl) w⟩
  · cases h; obtain ⟨i, h1, h2, _⟩ := info_parts info8; exact ⟨i, _, h1, h2, build_run h1 h2 Tryd.underlying8 (fun w => by kernel_rfl) w⟩
  · cases h; obtain ⟨i, h1, h2, _⟩ := info_parts info13; exact ⟨i, _, h1, h2, build_run h1 h2 Tryd.underlying13 (fun w => by kernel_rfl) w⟩
  · cases h; obtain ⟨i, h1, h2, _⟩ := info_parts info14; exact ⟨i, _, h1, h2, build_run h1 h2 Tryd.underlying14 (fun w => by kernel_rfl) w⟩
  · cases h; obtain ⟨i, h1, h2, _⟩ := info_parts info18; exact ⟨i, _, h1, h2, build_run h1 h2 Tryd.underlying18 (fun w => by kernel_rfl) w⟩
  · cases h; obtain ⟨i, h1, h2, _⟩ := info_parts info19; exact ⟨i, _, h1, h2, build_run h1 h2 Tryd.underlying19 (fun w => by kernel_rfl) w⟩
  · cases h; obtain ⟨i, h1, h2, _⟩ := info_parts info25; exact ⟨i, _, h1, h2, build_run h1 h2 Tryd.underlying25 (fun w => by kernel_rfl) w⟩
  · cases h; obtain ⟨i, h1, h2, _⟩ := info_parts info26; exact ⟨i, _, h1, h2, build_run h1 h2 Tryd.underlying26 (fun w => by kernel_rfl) w⟩
  · cases h; obtain ⟨i, h1, h2, _⟩ := info_parts info42; exact ⟨i, _, h1, h2, build_run h1 h2 Tryd.underlying42 (fun w => by kernel_rfl) w⟩
  · cases h; obtain ⟨i, h1, h2, _⟩ := info_parts info43; exact ⟨i, _, h1, h2, build_run h1 h2 Tryd.underlying43 (fun w => by kernel_rfl) w⟩
  · cases h; obtain ⟨i, h1, h2, _⟩ := info_parts info45; exact ⟨i, _, h1, h2, build_run h1 h2 Tryd.underlying45 (fun w => by kernel_rfl) w⟩
  · cases h; obtain ⟨i, h1, h2, _⟩ := info_parts info46; exact ⟨i, _, h1, h2, build_run h1 h2 Tryd.underlying46 (fun w => by kernel_rfl) w⟩
  · cases h; obtain ⟨i, h1, h2, _⟩ := info_parts info86; exact ⟨i, _, h1, h2, build_run h1 h2 Tryd.underlying86 (fun w => by kernel_rfl) w⟩
  · cases h; obtain ⟨i, h1, h2, _⟩ := info_parts info87; exact ⟨i, _, h1, h2, build_run h1 h2 Tryd.underlying87 (fun w => by kernel_rfl) w⟩
  · cases h; obtain ⟨i, h1, h2, _⟩ := info_parts info99; exact ⟨i, _, h1, h2, build_run h1 h2 Tryd.underlying99 (fun w => by kernel_rfl) w⟩
  · cases h; obtain ⟨i, h1, h2, _⟩ := info_parts info100; exact ⟨i, _, h1, h2, build_run h1 h2 Tryd.underlying100 (fun w => by kernel_rfl) w⟩
  · cases h; obtain ⟨i, h1, h2, _⟩ := info_parts info162; exact ⟨i, _, h1, h2, build_run h1 h2 Tryd.underlying162 (fun w => by kernel_rfl) w⟩
  · cases h; obtain ⟨i, h1, h2, _⟩ := info_parts info163; exact ⟨i, _, h1, h2, build_run h1 h2 Tryd.underlying163 (fun w => by kernel_rfl) w⟩
  · cases h; obtain ⟨i, h1, h2, _⟩ := info_parts info172; exact ⟨i, _, h1, h2, build_run h1 h2 Tryd.underlying172 (fun w => by kernel_rfl) w⟩
  · cases h; obtain ⟨i, h1, h2, _⟩ := info_parts info173; exact ⟨i, _, h1, h2, build_run h1 h2 Tryd.underlying173 (fun w => by kernel_rfl) w⟩
  · cases h; obtain ⟨i, h1, h2, _⟩ := info_parts info176; exact ⟨i, _, h1, h2, build_run h1 h2 Tryd.underlying176 (fun w => by kernel_rfl) w⟩
  · cases h; obtain ⟨i, h1, h2, _⟩ := info_parts info177; exact ⟨i, _, h1, h2, build_run h1 h2 Tryd.underlying177 (fun w => by kernel_rfl) w⟩
  · cases h; obtain ⟨i, h1, h2, _⟩ := info_parts info183; exact ⟨i, _, h1, h2, build_run h1 h2 Tryd.underlying183 (fun w => by kernel_rfl) w⟩
  · cases h; obtain ⟨i, h1, h2, _⟩ := info_parts info184; exact ⟨i, _, h1, h2, build_run h1 h2 Tryd.underlying184 (fun w => by kernel_rfl) w⟩
  · cases h; obtain ⟨i, h1, h2, _⟩ := info_parts info194; exact ⟨i, _, h1, h2, build_run h1 h2 Tryd.underlying194 (fun w => by kernel_rfl) w⟩
  · cases h; obtain ⟨i, h1, h2, _⟩ := info_parts info195; exact ⟨i, _, h1, h2, build_run h1 h2 Tryd.underlying195 (fun w => by kernel_rfl) w⟩
  · cases h
theorem env_pts : ∀ t, ePts t = true → ∀ (a b c d : Int) w, (Op.equal t (.agg #[.int .i64 a, .int .i64 b]) (.agg #[.int .i64 c, .int .i64 d])).run Tryd.prog w = .ok (decide (a = c ∧ b = d)) w ∧
    ∀ x y op, (eqGuard op t x y (.agg #[.int .i64 a, .int .i64 b]) (.agg #[.int .i64 c, .int .i64 d])).run Tryd.prog w = .ok () w := by
  intro t h a b c d w
  unfold ePts at h
  split at h
  · exact pts_run Tryd.underlying45 ⟨rfl, by decide, Tryd.underlying2⟩ ⟨rfl, by decide, Tryd.underlying2⟩ (by kernel_rfl) (by kernel_rfl) a b c d w
  · exact pts_run Tryd.underlying46 ⟨rfl, by decide, Tryd.underlying2⟩ ⟨rfl, by decide, Tryd.underlying2⟩ (by kernel_rfl) (by kernel_rfl) a b c d w
  · cases h
theorem env_mp : ∀ t kk z, eMp t = some (kk, z) → ∃ kt et i, Tryd.prog.underlying t = some (.map kt et) ∧ KeyLaw Tryd.prog kk kt ∧ Tryd.prog.info? et = some i ∧ i.zero = some z := by
  intro t kk z h
  unfold eMp at h
  split at h
  · cases h; obtain ⟨i, h1, h2, _⟩ := info_parts info3; exact ⟨2, 3, i, Tryd.underlying67, (keyLaw_int Tryd.underlying2), h1, h2⟩
  · cases h; obtain ⟨i, h1, h2, _⟩ := info_parts info4; exact ⟨46, 4, i, Tryd.underlying76, (keyLaw_pts Tryd.underlying46 ⟨rfl, by decide, Tryd.underlying2⟩ ⟨rfl, by decide, Tryd.underlying2⟩ (by kernel_rfl) (by kernel_rfl)), h1, h2⟩
  · cases h
theorem env_byt : ∀ t, eByt t = true → ∃ et, Tryd.prog.underlying t = some (.slice et) ∧ Tryd.prog.underlying et = some (.int .u8) := by
  intro t h
  unfold eByt at h
  split at h
  · exact ⟨_, Tryd.underlying22, Tryd.underlying5⟩
  · cases h
theorem env_ifc : ∀ t, eIfc t = true → ∃ ms, Tryd.prog.underlying t = some (.interface ms) := by
  intro t h
  unfold eIfc at h
  split at h
  · exact ⟨_, Tryd.underlying20⟩
  · exact ⟨_, Tryd.underlying102⟩
  · exact ⟨_, Tryd.underlying103⟩
  · cases h
theorem mixed : Tryd.prog.follows .mixedOrders = true := by kernel_rfl
theorem envOk : EnvOk Tryd.prog env := ⟨env_sl, env_var, env_fld, env_zero, env_knd, env_bld, env_pts, env_mp, env_byt, env_ifc⟩
theorem vsl_22 : env.sl 22 = some (.int .u8) := rfl
theorem vsl_24 : env.sl 24 = some (.int .i64) := rfl
theorem vsl_41 : env.sl 41 = some (.sli .i64) := rfl
theorem vsl_81 : env.sl 81 = some (.str) := rfl
theorem vkn_22 : env.knd 22 = none := rfl
theorem vkn_24 : env.knd 24 = none := rfl
theorem vkn_41 : env.knd 41 = none := rfl
theorem vkn_81 : env.knd 81 = none := rfl
theorem vifc_20 : env.ifc 20 = true := rfl
theorem vifc_103 : env.ifc 103 = true := rfl
theorem vvar_1 : env.var 1 = some (false, 1) := rfl
theorem vvar_2 : env.var 2 = some (false, 1) := rfl
theorem vvar_3 : env.var 3 = some (false, 1) := rfl
theorem vvar_4 : env.var 4 = some (false, 1) := rfl
theorem vvar_5 : env.var 5 = some (false, 1) := rfl
theorem vvar_6 : env.var 6 = some (false, 1) := rfl
theorem vvar_9 : env.var 9 = some (false, 1) := rfl
theorem vvar_22 : env.var 22 = some (false, 1) := rfl
theorem vvar_24 : env.var 24 = some (false, 1) := rfl
theorem vvar_26 : env.var 26 = some (true, 2) := rfl
theorem vvar_41 : env.var 41 = some (false, 1) := rfl
theorem vvar_57 : env.var 57 = some (false, 1) := rfl
theorem vvar_67 : env.var 67 = some (false, 1) := rfl
theorem vvar_81 : env.var 81 = some (false, 1) := rfl
theorem vvar_85 : env.var 85 = some (false, 1) := rfl
theorem vvar_87 : env.var 87 = some (true, 3) := rfl
theorem vvar_89 : env.var 89 = some (false, 1) := rfl
theorem vfld_26_0 : env.fld 26 0 = some 0 := rfl
theorem vfld_26_1 : env.fld 26 1 = some 1 := rfl
theorem vfld_87_0 : env.fld 87 0 = some 0 := rfl
theorem vfld_87_1 : env.fld 87 1 = some 1 := rfl
theorem vfld_87_2 : env.fld 87 2 = some 2 := rfl
theorem vzero_1 : env.zero 1 = some [.nilFunc] := rfl
theorem vzero_2 : env.zero 2 = some [.int .i64 0] := rfl
theorem vzero_3 : env.zero 3 = some [.int .i64 0] := rfl
theorem vzero_4 : env.zero 4 = some [.bool false] := rfl
theorem vzero_5 : env.zero 5 = some [.int .u8 0] := rfl
theorem vzero_6 : env.zero 6 = some [.int .u8 0] := rfl
theorem vzero_9 : env.zero 9 = some [.string ByteArray.empty] := rfl
theorem vzero_22 : env.zero 22 = some [.slice none 0 0] := rfl
theorem vzero_24 : env.zero 24 = some [.slice none 0 0] := rfl
theorem vzero_26 : env.zero 26 = some [.slice none 0 0, .slice none 0 0] := rfl
theorem vzero_41 : env.zero 41 = some [.slice none 0 0] := rfl
theorem vzero_57 : env.zero 57 = some [.pointer none] := rfl
theorem vzero_67 : env.zero 67 = some [.map none] := rfl
theorem vzero_81 : env.zero 81 = some [.slice none 0 0] := rfl
theorem vzero_85 : env.zero 85 = some [.int .u64 0] := rfl
theorem vzero_87 : env.zero 87 = some [.slice none 0 0, .int .i64 0, .int .u64 0] := rfl
theorem vzero_89 : env.zero 89 = some [.pointer none] := rfl
theorem vknd_2 : env.knd 2 = some (.int .i64) := rfl
theorem vknd_3 : env.knd 3 = some (.int .i64) := rfl
theorem vknd_4 : env.knd 4 = some (.bool) := rfl
theorem vknd_5 : env.knd 5 = some (.int .u8) := rfl
theorem vknd_6 : env.knd 6 = some (.int .u8) := rfl
theorem vknd_9 : env.knd 9 = some (.string) := rfl
theorem vknd_85 : env.knd 85 = some (.int .u64) := rfl
theorem vsn_2 : env.sl 2 = none := rfl
theorem vsn_3 : env.sl 3 = none := rfl
theorem vsn_4 : env.sl 4 = none := rfl
theorem vsn_5 : env.sl 5 = none := rfl
theorem vsn_6 : env.sl 6 = none := rfl
theorem vsn_9 : env.sl 9 = none := rfl
theorem vsn_85 : env.sl 85 = none := rfl
theorem vbld_26 : env.bld 26 = some [(0, 1), (1, 1)] := rfl
theorem vbld_87 : env.bld 87 = some [(0, 1), (1, 1), (2, 1)] := rfl
theorem vmp_67 : env.mp 67 = some (.int .i64, .int .i64 0) := rfl
theorem vbyt_22 : env.byt 22 = true := rfl
end Go.Proofs.YtmkcahfhnehanaaDoor
end
section
set_option linter.unusedSimpArgs false
set_option linter.unusedVariables false
namespace Go.Proofs.YtmkcahfhnehanaaDoor
open Go.Eng
abbrev Mz := List (List Int)
abbrev Pt := Int × Int
def width (m : Mz) : Nat := (m.getD 0 []).length
def RowIs (w : Nat) (r : List Int) : Prop := r.length = w ∧ ∀ x, x < r.length → 0 ≤ r.getD x 0 ∧ r.getD x 0 ≤ 9
/-- Is a maze valid? -/
def MzOk (m : Mz) : Prop := (1 ≤ m.length ∧ m.length ≤ 12) ∧ (1 ≤ width m ∧ width m ≤ 12) ∧ ∀ y, y < m.length → RowIs (width m) (m.getD y [])
noncomputable instance (m : Mz) : Decidable (MzOk m) := Classical.propDecidable _
def cell (m : Mz) (p : Pt) : Int := (m.getD p.2.toNat []).getD p.1.toNat 0
def InMz (m : Mz) (p : Pt) : Prop := (0 ≤ p.2 ∧ p.2 ≤ (m.length : Int) - 1) ∧ (0 ≤ p.1 ∧ p.1 ≤ (width m : Int) - 1)
instance (m : Mz) (p : Pt) : Decidable (InMz m p) := by unfold InMz; exact inferInstance
/-- A point of an open cell. -/
def OpenAt (m : Mz) (p : Pt) : Prop := InMz m p ∧ 0 < cell m p
instance (m : Mz) (p : Pt) : Decidable (OpenAt m p) := by unfold OpenAt; exact inferInstance
theorem MzOk.cell {m : Mz} (h : MzOk m) {p : Pt} (hp : InMz m p) : p.2.toNat < m.length ∧ (m.getD p.2.toNat []).length = width m ∧ p.1.toNat < (m.getD p.2.toNat []).length ∧ 0 ≤ cell m p ∧ cell m p ≤ 9 := by
  obtain ⟨h1, h2, h3⟩ := h
  obtain ⟨⟨p1, p2⟩, p3, p4⟩ := hp
  have hy : p.2.toNat < m.length := by omega
  obtain ⟨g1, g2⟩ := h3 _ hy
  have hx : p.1.toNat < (m.getD p.2.toNat []).length := by omega
  exact ⟨hy, g1, hx, g2 _ hx⟩
end Go.Proofs.YtmkcahfhnehanaaDoor
end
section
set_option linter.unusedSimpArgs false
set_option linter.unusedVariables false
set_option maxHeartbeats 1000000
namespace Go.Proofs.YtmkcahfhnehanaaDoor
open Go.Eng
/-- No list is longer than that. -/
def Fits (n : Nat) (m : Mz) : Prop := m.length ≤ n ∧ ∀ i, (m.getD i []).length ≤ n
theorem getD_none {m : Mz} {y : Nat} (h : ¬ y < m.length) : m.getD y [] = [] := by simp [List.getD, List.getElem?_eq_none (Nat.le_of_not_lt h)]
/-- All prices of a row are prices. -/
def RowG (xs : List Int) : Prop := ∀ x, x < xs.length → 0 ≤ xs.getD x 0 ∧ xs.getD x 0 ≤ 9
instance (xs : List Int) : Decidable (RowG xs) := by unfold RowG; exact inferInstance
theorem Fits.of {m : Mz} (h : m.length ≤ maxLen) (hw : ∀ y ∈ m, (ETy.sli .i64).wf y) : Fits 9223372036854775807 m := ⟨h, fun i => by
  by_cases hi : i < m.length
  · have hmem : m.getD i [] ∈ m := by
      simp only [List.getD, List.getElem?_eq_getElem hi, Option.getD_some]; exact List.getElem_mem hi
    exact (hw _ hmem).1
  · rw [getD_none hi]; simp⟩
end Go.Proofs.YtmkcahfhnehanaaDoor
end
section
set_option linter.unusedSimpArgs false
set_option linter.unusedVariables false
set_option maxHeartbeats 1000000
namespace Go.Proofs.YtmkcahfhnehanaaDoor
open Go.Eng
end Go.Proofs.YtmkcahfhnehanaaDoor
end
section
set_option linter.unusedSimpArgs false
set_option linter.unusedVariables false
set_option maxHeartbeats 1000000
namespace Go.Proofs.YtmkcahfhnehanaaDoor
open Go.Eng
def U8 (cs : List Int) : Prop := ∀ n, 0 ≤ cs.getD n 0 ∧ cs.getD n 0 ≤ 255
/-- A source of choices, in memory. -/
def srcBox (cs : List Int) (z : Int × Int) : ABox := .box false [.rd (.int .u8) cs, .v (.int .i64 z.1), .v (.int .u64 z.2)]
theorem from85_ac (cs : List Int) (H : List ABox) : AC Tryd.prog 25 [.rd (.int .u8) cs] H (fun r H' => r = .ptr 1 (H.length + 0) 0 0 ∧ H' = H ++ [srcBox cs (0, 0)]) := by
  refine AC.enter envOk Tryd.func25 rfl (by decide) Tryd.ntmps25 Tryd.results25 (by simp) fun hB => ?_
  repeat' (first | (with_reducible first | refine AW.sreg envOk fun K hK => ?_ | refine AW.region envOk fun K hK => ?_ | refine vcL_nil ?_) | (with_reducible (first | refine vcL_cons fun K' hK' => ?_); simp only [isC, Bool.false_or, Bool.or_true, ↓reduceDIte, List.take_length, Nat.le_refl, List.drop_zero, vGuard, undef, Bool.not_eq_eq_eq_not, dstOk, vcOp, vcF, isPure, putS, vcCall, St.ev, St.put, lk, AVal.ofVal, initS, Nat.reduceLT, true_and, and_true, vPart, vLoad, vBox, vBuild, partsA, fillA, decAll, AVal.flat, AVal.cell, cellsOk, setRange, ETy.enc, ETy.dec, ETy.sz, ETy.d, cond, Nat.reduceBEq, Nat.reduceAdd, Int.toNat_natCast, List.length_set, List.length_append, List.length_replicate, List.length_take, Nat.reduceSub, Nat.reduceEqDiff, get_loc, setBox_loc, next_eq, List.length_cons, List.length_nil, List.map_cons, List.map_nil, List.append_nil, List.nil_append, List.cons_append, List.set_cons_zero, List.set_cons_succ, getD_zero, getD_succ, List.getElem?_cons_succ, List.getElem?_cons_zero, List.take_succ_cons, List.take_zero, List.drop_succ_cons, List.all_cons, List.all_nil, Bool.and_true, Bool.true_and, Option.bind_some, Option.map_some, Option.map_none, decide_eq_true_eq, decide_eq_false_iff_not, ne_eq, Bool.not_eq_true, Bool.not_eq_false, Decidable.not_not, not_true_eq_false, not_false_eq_true, forall_const, false_implies, Bool.true_eq_false, Bool.false_eq_true, reduceCtorEq, decide_true, decide_false, Bool.not_true, Bool.not_false, if_true, if_false, Nat.zero_add, Nat.lt_irrefl, Value.oneCell', gt_iff_lt, Nat.reduceLeDiff, Nat.lt_add_one, vsl_22, vkn_22, vvar_22, vzero_22, vbyt_22, vvar_57, vzero_57, vvar_87, vzero_87, vbld_87]; try simp (disch := omega) only [wrap64]) | (with_reducible refine hK' _ ?_; clear hK' K') | (with_reducible refine hK _ ?_; clear hK K) | (with_reducible first | refine And.intro (And.intro rfl rfl) ?_ | refine And.intro (by omega) ?_) | (with_reducible refine And.intro (fun hg => ?_) (fun hg => ?_) <;> first | simp only [eq_false hg, rsB] | simp only [eq_true hg, rsB] | simp only [hg, rsB]) | (with_reducible first | refine And.intro rfl (And.intro rfl rfl) | refine thenQ_n ?_ | refine thenQ_exit ?_ | refine thenQ_ret ?_ | refine midQ_ret ?_ | refine midQ_exit ?_ | refine blockQ_same ?_ | refine blockQ_ne (by decide) ?_ | refine blockQ_ret ?_ | refine blockQ_n ?_ | refine AW.exit ?_ | refine AW.block ?_ | refine AW.cond_t rfl ?_ | refine AW.cond_f rfl ?_ | refine AW.cond_dec rfl (fun hc => ?_) (fun hc => ?_)) | (with_reducible refine AW.cond rfl (fun hc => ?_) (fun hc => ?_) <;> try simp only [Bool.not_eq_eq_eq_not, Bool.not_true, Bool.not_false, decide_eq_true_eq, decide_eq_false_iff_not] at hc) | (with_reducible first | refine AW.seq ?_ | refine AW.skip ?_ | refine AW.ret ?_ | refine And.intro ?_ ?_) | (with_reducible intro hg; first | simp only [eq_false hg, rsB] | simp only [eq_true hg, rsB]) | (with_reducible refine retQ_drop ?_; simp only [vRes, packRes, vLoad, vPart, lk, cond, Nat.reduceBEq, get_loc, getD_zero, getD_succ, true_and, List.length_cons, List.length_nil, Nat.reduceAdd, Nat.reduceLT, Nat.reduceLeDiff, List.take_succ_cons, List.take_zero, List.drop_succ_cons, List.drop_zero, vsl_22, vkn_22, vvar_22, vzero_22, vbyt_22, vvar_57, vzero_57, vvar_87, vzero_87, vbld_87]) )
  exact ⟨_, _, FinOk.keep [0] (L := [srcBox cs (0, 0)]) hB (by decide) ⟨RenB.plBox (by (repeat' (first | exact Pl.v _ | exact Pl.junk | exact Pl.rd rfl _ | exact pl_nil | refine pl_cons ?_ ?_ | refine Pl.agg ?_ | refine Pl.tup ?_ | refine Pl.rp ?_ | refine Pl.fn ?_)); (first | done | fail)), by simp, trivial⟩ (RenV.ptr (j := 0) rfl), rfl, rfl⟩
theorem wrapAnd (y : Int) : 0 ≤ IntKind.i64.wrap (bitAnd .u64 y 255) ∧ IntKind.i64.wrap (bitAnd .u64 y 255) ≤ 255 := by rw [wrap64 (by have := bitAnd_255 y; omega)]; exact bitAnd_255 y
theorem next110e_ac (cs : List Int) (z : Int × Int) (hx : cs.length ≤ 1000000000) (hu : U8 cs) (hz : 0 ≤ z.1 ∧ z.1 ≤ 1000000000) (l : List ABox) (j : Nat) (hj : l[j]? = some (srcBox cs z)) (H : List ABox) (hH : BaseLt H.length H) :
    AC Tryd.prog 48 [.ptr 1 (H.length + j) 0 0] (H ++ l) (fun r H' => ∃ a b : Int, (0 ≤ a ∧ a ≤ 255) ∧ r = .v (.int .i64 (a)) ∧ H' = H ++ l.set j (srcBox cs (z.1 + 1, b))) := by
  have hjl : j < l.length := (List.getElem?_eq_some_iff.1 hj).1
  have hl : l.set j (srcBox cs z) = l := set_same hj
  rw [← hl]
  simp only [set_again]
  have h0 := hu z.1.toNat
  have h1 := bitAnd_255
  unfold srcBox
  refine AC.enter envOk Tryd.func48 rfl (by decide) Tryd.ntmps48 Tryd.results48 (by simp) fun hB => ?_
  repeat' (first | (with_reducible first | refine AW.sreg envOk fun K hK => ?_ | refine AW.region envOk fun K hK => ?_) | (with_reducible refine AW.d0reg envOk mixed ?_ ?_ fun K hK => ?_; (first | rfl | exact base_len | exact base_len0); kernel_rfl) | (with_reducible refine AW.d0 envOk mixed ?_ ?_ fun K hK => ?_; (first | rfl | exact base_len | exact base_len0); kernel_rfl) | (with_reducible first | refine vcD_nil ?_ | refine vcL_nil ?_) | (with_reducible (first | refine vcD_cons fun K' hK' => ?_ | refine vcL_cons fun K' hK' => ?_); simp only [isC, Bool.false_or, Bool.or_true, ↓reduceDIte, List.take_length, Nat.le_refl, List.drop_zero, vGuard, undef, Bool.not_eq_eq_eq_not, dstOk, vcOp, vcF, isPure, putS, vcCall, St.ev, St.put, lk, AVal.ofVal, initS, Nat.reduceLT, true_and, and_true, vBin, vConv, vPart, vLoad, vStore, vIdxA, vFldA, vLen, vNil, AVal.flat, AVal.cell, cellsOk, setRange, ETy.enc, ETy.dec, ETy.sz, ETy.d, cond, Nat.reduceBEq, Nat.reduceAdd, Int.toNat_natCast, List.length_set, List.length_append, List.length_replicate, List.length_take, Nat.reduceSub, Nat.reduceEqDiff, get_bl, setBox_bl, next_bl, List.length_cons, List.length_nil, List.map_cons, List.map_nil, List.append_nil, List.nil_append, List.cons_append, List.set_cons_zero, List.set_cons_succ, getD_zero, getD_succ, List.getElem?_cons_succ, List.getElem?_cons_zero, List.take_succ_cons, List.take_zero, List.drop_succ_cons, List.all_cons, List.all_nil, Bool.and_true, Bool.true_and, Option.bind_some, Option.map_some, Option.map_none, decide_eq_true_eq, decide_eq_false_iff_not, ne_eq, Bool.not_eq_true, Bool.not_eq_false, Decidable.not_not, not_true_eq_false, not_false_eq_true, forall_const, false_implies, Bool.true_eq_false, Bool.false_eq_true, reduceCtorEq, decide_true, decide_false, Bool.not_true, Bool.not_false, if_true, if_false, Nat.zero_add, Nat.lt_irrefl, Value.oneCell', gt_iff_lt, Nat.reduceLeDiff, Nat.lt_add_one, vvar_2, vzero_2, vknd_2, vsn_2, vvar_3, vzero_3, vknd_3, vsn_3, vvar_4, vzero_4, vknd_4, vsn_4, vvar_5, vzero_5, vknd_5, vsn_5, vsl_22, vkn_22, vvar_22, vzero_22, vbyt_22, vvar_57, vzero_57, vvar_85, vzero_85, vknd_85, vsn_85, vvar_87, vzero_87, vbld_87, vfld_87_0, vfld_87_1, vfld_87_2, get_set hjl, get_set0 hjl, set_again, hjl, Nat.zero_add]; try simp (disch := omega) only [wrap64]) | (with_reducible refine hK' _ ?_; clear hK' K') | (with_reducible refine hK _ ?_; clear hK K) | (with_reducible first | refine And.intro (And.intro rfl rfl) ?_ | refine And.intro (by omega) ?_) | (with_reducible refine And.intro (fun hg => ?_) (fun hg => ?_) <;> first | simp only [eq_false hg, rsB] | simp only [eq_true hg, rsB] | simp only [hg, rsB]) | (with_reducible first | refine And.intro rfl (And.intro rfl rfl) | refine thenQ_n ?_ | refine thenQ_exit ?_ | refine thenQ_ret ?_ | refine midQ_ret ?_ | refine midQ_exit ?_ | refine blockQ_same ?_ | refine blockQ_ne (by decide) ?_ | refine blockQ_ret ?_ | refine blockQ_n ?_ | refine AW.exit ?_ | refine AW.block ?_ | refine AW.cond_t rfl ?_ | refine AW.cond_f rfl ?_ | refine AW.cond_dec rfl (fun hc => ?_) (fun hc => ?_)) | (with_reducible refine AW.cond rfl (fun hc => ?_) (fun hc => ?_) <;> try simp only [Bool.not_eq_eq_eq_not, Bool.not_true, Bool.not_false, decide_eq_true_eq, decide_eq_false_iff_not] at hc) | (with_reducible first | refine AW.seq ?_ | refine AW.skip ?_ | refine AW.ret ?_ | refine And.intro ?_ ?_) | (with_reducible intro hg; first | simp only [eq_false hg, rsB] | simp only [eq_true hg, rsB]) | (with_reducible refine retQ_drop ?_; simp only [vRes, packRes, vLoad, vPart, lk, cond, Nat.reduceBEq, get_bl, getD_zero, getD_succ, true_and, List.length_cons, List.length_nil, Nat.reduceAdd, Nat.reduceLT, Nat.reduceLeDiff, List.take_succ_cons, List.take_zero, List.drop_succ_cons, List.drop_zero, vvar_2, vzero_2, vknd_2, vsn_2, vvar_3, vzero_3, vknd_3, vsn_3, vvar_4, vzero_4, vknd_4, vsn_4, vvar_5, vzero_5, vknd_5, vsn_5, vsl_22, vkn_22, vvar_22, vzero_22, vbyt_22, vvar_57, vzero_57, vvar_85, vzero_85, vknd_85, vsn_85, vvar_87, vzero_87, vbld_87, vfld_87_0, vfld_87_1, vfld_87_2]) )
  all_goals refine ⟨_, _, FinOk.base, _, _, ?_, rfl, rfl⟩
  all_goals first | exact h0 | exact h1 _ | exact wrapAnd _ | omega
theorem next110_ac (cs : List Int) (z : Int × Int) (hx : cs.length ≤ 1000000000) (hu : U8 cs) (hz : 0 ≤ z.1 ∧ z.1 ≤ 1000000000) (l : List ABox) (j : Nat) (hj : l[j]? = some (srcBox cs z)) (H : List ABox) (hH : BaseLt H.length H) :
    AC Tryd.prog 48 [.ptr 1 (H.length + j) 0 0] (H ++ l) (fun r H' => ∃ x : Int × Int, (0 ≤ x.1 ∧ x.1 ≤ 255) ∧ r = .v (.int .i64 (x.1)) ∧ H' = H ++ l.set j (srcBox cs (z.1 + 1, x.2))) :=
  (next110e_ac cs z hx hu hz l j hj H hH).mono fun r H' ⟨a, b, h⟩ => ⟨(a, b), h⟩
/-- A number below n, drawn; at most one byte is read. -/
theorem pick86e_ac (cs : List Int) (z : Int × Int) (n : Int) (hn : 1 ≤ n ∧ n ≤ 200) (hx : cs.length ≤ 1000000000) (hu : U8 cs) (hz : 0 ≤ z.1 ∧ z.1 ≤ 1000000000) (l : List ABox) (j : Nat) (hj : l[j]? = some (srcBox cs z)) (H : List ABox) (hH : BaseLt H.length H) :
    AC Tryd.prog 26 [.ptr 1 (H.length + j) 0 0, .v (.int .i64 (n))] (H ++ l) (fun r H' => ∃ x : Int × Int × Int, ((0 ≤ x.1 ∧ x.1 < n) ∧ z.1 ≤ x.2.1 ∧ x.2.1 ≤ z.1 + 1) ∧ r = .v (.int .i64 (x.1)) ∧ H' = H ++ l.set j (srcBox cs x.2)) := by
  have hc200 : ¬ 200 < n := by omega
  have hself : l.set j (srcBox cs (z.1, z.2)) = l := set_same hj
  by_cases hc1 : n ≤ 1
  ·
    refine AC.enter envOk Tryd.func26 rfl (by decide) Tryd.ntmps26 Tryd.results26 (by simp) fun hB => ?_
    repeat' (first | (with_reducible first | refine AW.sreg envOk fun K hK => ?_ | refine AW.region envOk fun K hK => ?_ | refine vcL_nil ?_) | (with_reducible (first | refine vcL_cons fun K' hK' => ?_); simp only [isC, Bool.false_or, Bool.or_true, ↓reduceDIte, List.take_length, Nat.le_refl, List.drop_zero, vGuard, undef, Bool.not_eq_eq_eq_not, dstOk, vcOp, vcF, isPure, putS, vcCall, St.ev, St.put, lk, AVal.ofVal, initS, Nat.reduceLT, true_and, and_true, vBin, vPick, vPart, vLoad, AVal.flat, AVal.cell, cellsOk, setRange, ETy.enc, ETy.dec, ETy.sz, ETy.d, cond, Nat.reduceBEq, Nat.reduceAdd, Int.toNat_natCast, List.length_set, List.length_append, List.length_replicate, List.length_take, Nat.reduceSub, Nat.reduceEqDiff, get_loc, setBox_loc, next_eq, List.length_cons, List.length_nil, List.map_cons, List.map_nil, List.append_nil, List.nil_append, List.cons_append, List.set_cons_zero, List.set_cons_succ, getD_zero, getD_succ, List.getElem?_cons_succ, List.getElem?_cons_zero, List.take_succ_cons, List.take_zero, List.drop_succ_cons, List.all_cons, List.all_nil, Bool.and_true, Bool.true_and, Option.bind_some, Option.map_some, Option.map_none, decide_eq_true_eq, decide_eq_false_iff_not, ne_eq, Bool.not_eq_true, Bool.not_eq_false, Decidable.not_not, not_true_eq_false, not_false_eq_true, forall_const, false_implies, Bool.true_eq_false, Bool.false_eq_true, reduceCtorEq, decide_true, decide_false, Bool.not_true, Bool.not_false, if_true, if_false, Nat.zero_add, Nat.lt_irrefl, Value.oneCell', gt_iff_lt, Nat.reduceLeDiff, Nat.lt_add_one, vvar_2, vzero_2, vknd_2, vsn_2, vvar_4, vzero_4, vknd_4, vsn_4, vvar_57, vzero_57, hc200]; try simp (disch := omega) only [wrap64]) | (with_reducible refine hK' _ ?_; clear hK' K') | (with_reducible refine hK _ ?_; clear hK K) | (with_reducible first | refine And.intro (And.intro rfl rfl) ?_ | refine And.intro (by omega) ?_) | (with_reducible refine And.intro (fun hg => ?_) (fun hg => ?_) <;> first | simp only [eq_false hg, rsB] | simp only [eq_true hg, rsB] | simp only [hg, rsB]) | (with_reducible first | refine And.intro rfl (And.intro rfl rfl) | refine thenQ_n ?_ | refine thenQ_exit ?_ | refine thenQ_ret ?_ | refine midQ_ret ?_ | refine midQ_exit ?_ | refine blockQ_same ?_ | refine blockQ_ne (by decide) ?_ | refine blockQ_ret ?_ | refine blockQ_n ?_ | refine AW.exit ?_ | refine AW.block ?_ | refine AW.cond_t rfl ?_ | refine AW.cond_f rfl ?_ | refine AW.cond_dec rfl (fun hc => ?_) (fun hc => ?_)) | (with_reducible refine AW.cond rfl (fun hc => ?_) (fun hc => ?_) <;> try simp only [Bool.not_eq_eq_eq_not, Bool.not_true, Bool.not_false, decide_eq_true_eq, decide_eq_false_iff_not] at hc) | (with_reducible first | refine AW.seq ?_ | refine AW.skip ?_ | refine AW.ret ?_ | refine And.intro ?_ ?_) | (with_reducible intro hg; first | simp only [eq_false hg, rsB] | simp only [eq_true hg, rsB]) | (with_reducible refine retQ_drop ?_; simp only [vRes, packRes, vLoad, vPart, lk, cond, Nat.reduceBEq, get_loc, getD_zero, getD_succ, true_and, List.length_cons, List.length_nil, Nat.reduceAdd, Nat.reduceLT, Nat.reduceLeDiff, List.take_succ_cons, List.take_zero, List.drop_succ_cons, List.drop_zero, vvar_2, vzero_2, vknd_2, vsn_2, vvar_4, vzero_4, vknd_4, vsn_4, vvar_57, vzero_57]) )
    all_goals first
      | (exfalso; omega)
      | skip
    refine ⟨_, _, FinOk.base, (0, z.1, z.2), ⟨⟨by simp only; omega, by simp only; omega⟩, by simp only; omega, by simp only; omega⟩, rfl, ?_⟩
    rw [hself]
  ·
    refine AC.enter envOk Tryd.func26 rfl (by decide) Tryd.ntmps26 Tryd.results26 (by simp) fun hB => ?_
    repeat' (first | (with_reducible first | refine AW.sreg envOk fun K hK => ?_ | refine AW.region envOk fun K hK => ?_ | refine vcL_nil ?_) | (with_reducible (first | refine vcL_cons fun K' hK' => ?_); simp only [isC, Bool.false_or, Bool.or_true, ↓reduceDIte, List.take_length, Nat.le_refl, List.drop_zero, vGuard, undef, Bool.not_eq_eq_eq_not, dstOk, vcOp, vcF, isPure, putS, vcCall, St.ev, St.put, lk, AVal.ofVal, initS, Nat.reduceLT, true_and, and_true, vBin, vPick, vPart, vLoad, AVal.flat, AVal.cell, cellsOk, setRange, ETy.enc, ETy.dec, ETy.sz, ETy.d, cond, Nat.reduceBEq, Nat.reduceAdd, Int.toNat_natCast, List.length_set, List.length_append, List.length_replicate, List.length_take, Nat.reduceSub, Nat.reduceEqDiff, get_loc, setBox_loc, next_eq, List.length_cons, List.length_nil, List.map_cons, List.map_nil, List.append_nil, List.nil_append, List.cons_append, List.set_cons_zero, List.set_cons_succ, getD_zero, getD_succ, List.getElem?_cons_succ, List.getElem?_cons_zero, List.take_succ_cons, List.take_zero, List.drop_succ_cons, List.all_cons, List.all_nil, Bool.and_true, Bool.true_and, Option.bind_some, Option.map_some, Option.map_none, decide_eq_true_eq, decide_eq_false_iff_not, ne_eq, Bool.not_eq_true, Bool.not_eq_false, Decidable.not_not, not_true_eq_false, not_false_eq_true, forall_const, false_implies, Bool.true_eq_false, Bool.false_eq_true, reduceCtorEq, decide_true, decide_false, Bool.not_true, Bool.not_false, if_true, if_false, Nat.zero_add, Nat.lt_irrefl, Value.oneCell', gt_iff_lt, Nat.reduceLeDiff, Nat.lt_add_one, vvar_2, vzero_2, vknd_2, vsn_2, vvar_4, vzero_4, vknd_4, vsn_4, vvar_57, vzero_57, hc200, hc1]; try simp (disch := omega) only [wrap64]) | (with_reducible refine hK' _ ?_; clear hK' K') | (with_reducible refine hK _ ?_; clear hK K) | ((with_reducible show vCall _ (AVal.fn 48 _) _ _ _); refine vCall_exB (next110_ac cs z hx hu hz l j hj H hH) (fun x => List.length_set) (fun x hx0 => ?_)) | (with_reducible first | refine And.intro (And.intro rfl rfl) ?_ | refine And.intro (by omega) ?_) | (with_reducible refine And.intro (fun hg => ?_) (fun hg => ?_) <;> first | simp only [eq_false hg, rsB] | simp only [eq_true hg, rsB] | simp only [hg, rsB]) | (with_reducible first | refine And.intro rfl (And.intro rfl rfl) | refine thenQ_n ?_ | refine thenQ_exit ?_ | refine thenQ_ret ?_ | refine midQ_ret ?_ | refine midQ_exit ?_ | refine blockQ_same ?_ | refine blockQ_ne (by decide) ?_ | refine blockQ_ret ?_ | refine blockQ_n ?_ | refine AW.exit ?_ | refine AW.block ?_ | refine AW.cond_t rfl ?_ | refine AW.cond_f rfl ?_ | refine AW.cond_dec rfl (fun hc => ?_) (fun hc => ?_)) | (with_reducible refine AW.cond rfl (fun hc => ?_) (fun hc => ?_) <;> try simp only [Bool.not_eq_eq_eq_not, Bool.not_true, Bool.not_false, decide_eq_true_eq, decide_eq_false_iff_not] at hc) | (with_reducible first | refine AW.seq ?_ | refine AW.skip ?_ | refine AW.ret ?_ | refine And.intro ?_ ?_) | (with_reducible intro hg; first | simp only [eq_false hg, rsB] | simp only [eq_true hg, rsB]) | (with_reducible refine retQ_drop ?_; simp only [vRes, packRes, vLoad, vPart, lk, cond, Nat.reduceBEq, get_loc, getD_zero, getD_succ, true_and, List.length_cons, List.length_nil, Nat.reduceAdd, Nat.reduceLT, Nat.reduceLeDiff, List.take_succ_cons, List.take_zero, List.drop_succ_cons, List.drop_zero, vvar_2, vzero_2, vknd_2, vsn_2, vvar_4, vzero_4, vknd_4, vsn_4, vvar_57, vzero_57]) )
    all_goals first
      | (exfalso; omega)
      | skip
    have hr : 0 ≤ x.1.tmod n ∧ x.1.tmod n < n := by
      rw [Int.tmod_eq_emod_of_nonneg (by omega)]
      exact ⟨Int.emod_nonneg _ (by omega), Int.emod_lt_of_pos _ (by omega)⟩
    exact ⟨_, _, FinOk.base, (x.1.tmod n, z.1 + 1, x.2), ⟨hr, by simp only; omega, by simp only; omega⟩, rfl, rfl⟩
theorem U8.of {cs : List Int} (h : ∀ y ∈ cs, wfI .u8 y) : U8 cs := fun n => by
  by_cases hn : n < cs.length
  · have hm : cs.getD n 0 ∈ cs := by
      simp only [List.getD, List.getElem?_eq_getElem hn, Option.getD_some]; exact List.getElem_mem hn
    have := h _ hm
    unfold wfI at this
    simp only [Lit.wf, Bool.and_eq_true, decide_eq_true_eq] at this
    have e1 : IntKind.u8.min = 0 := rfl
    have e2 : IntKind.u8.max = 255 := rfl
    omega
  · have : cs.getD n 0 = 0 := by simp [List.getD, List.getElem?_eq_none (Nat.le_of_not_lt hn)]
    omega
end Go.Proofs.YtmkcahfhnehanaaDoor
end
section
set_option linter.unusedSimpArgs false
set_option linter.unusedVariables false
namespace Go.Proofs.YtmkcahfhnehanaaDoor
open Go.Eng
/-- The numbers among the first i, each once. -/
def ksTo (zs : List Int) : Nat → List Int
  | 0 => []
  | i + 1 => if zs.getD i 0 ∈ ksTo zs i then ksTo zs i else ksTo zs i ++ [zs.getD i 0]
def cntTo (zs : List Int) (i : Nat) (k : Int) : Int := ((zs.take i).count k : Nat)
def entTo (zs : List Int) (i : Nat) : List ((KK.int .i64).T × Value) := (ksTo zs i).map fun k => (k, .int .i64 (cntTo zs i k))
theorem take_succ' {zs : List Int} {i : Nat} (h : i < zs.length) : zs.take (i + 1) = zs.take i ++ [zs.getD i 0] := by
  rw [List.take_add_one, List.getElem?_eq_getElem h]
  simp [List.getD, h]
theorem cntTo_succ {zs : List Int} {i : Nat} (h : i < zs.length) (k : Int) : cntTo zs (i + 1) k = if k = zs.getD i 0 then cntTo zs i k + 1 else cntTo zs i k := by
  unfold cntTo
  rw [take_succ' h, List.count_append, List.count_singleton]
  by_cases e : k = zs.getD i 0
  · rw [if_pos e, if_pos (by rw [e]; exact beq_self_eq_true _)]; push_cast; rfl
  · rw [if_neg e, if_neg (by rw [beq_iff_eq]; exact fun h => e h.symm)]; rfl
theorem cntTo_bnd (zs : List Int) (i : Nat) (k : Int) : 0 ≤ cntTo zs i k ∧ cntTo zs i k ≤ i := by
  unfold cntTo
  have := List.count_le_length (a := k) (l := zs.take i)
  have h2 : (zs.take i).length ≤ i := by simp; omega
  omega
theorem ksTo_mem {zs : List Int} : ∀ {i : Nat}, i ≤ zs.length → ∀ k, k ∈ ksTo zs i ↔ 0 < cntTo zs i k
  | 0, _, k => by simp [ksTo, cntTo]
  | i + 1, h, k => by
    have ih := ksTo_mem (zs := zs) (i := i) (by omega) k
    have h0 := (cntTo_bnd zs i k).1
    rw [cntTo_succ (by omega)]
    unfold ksTo
    split
    · rename_i hm
      rw [ih]
      split
      · rename_i e
        rw [← e] at hm
        have := ih.1 hm; omega
      · rfl
    · rw [List.mem_append, ih, List.mem_singleton]
      split
      · rename_i e; exact ⟨fun _ => by omega, fun _ => .inr e⟩
      · rename_i e; exact ⟨fun h => h.resolve_right e, fun h => .inl h⟩
theorem ksTo_nodup (zs : List Int) : ∀ i, (ksTo zs i).Nodup
  | 0 => List.nodup_nil
  | i + 1 => by
    have ih := ksTo_nodup zs i
    unfold ksTo
    split
    · exact ih
    · rename_i h
      rw [List.nodup_append]
      exact ⟨ih, by simp, fun a ha b hb e => h (by have hb' := List.mem_singleton.1 hb; rw [← hb', ← e]; exact ha)⟩
theorem idx_ne {x y : Int} {r : List Int} (e : ¬ x = y) : (y :: r).idxOf x = r.idxOf x + 1 := by
  have e' : (y == x) = false := by simpa using Ne.symm e
  simp [List.idxOf_cons, e']
theorem look_in (f : Int → Value) (x : Int) : ∀ (ks : List Int) (j : Nat), x ∈ ks → lookK (.int .i64) x (ks.map fun k => (k, f k)) j = some (j + ks.idxOf x, f x)
  | [], _, h => by simp at h
  | y :: r, j, h => by
    simp only [List.map_cons, lookK]
    by_cases e : x = y
    · subst e; simp
    · rw [if_neg e]
      rcases List.mem_cons.1 h with h | h
      · exact absurd h e
      · rw [look_in f x r (j + 1) h, idx_ne e]
        congr 2; omega
theorem look_out (f : Int → Value) (x : Int) : ∀ (ks : List Int) (j : Nat), x ∉ ks → lookK (.int .i64) x (ks.map fun k => (k, f k)) j = none
  | [], _, _ => rfl
  | y :: r, j, h => by
    simp only [List.map_cons, lookK]
    rw [if_neg (fun e => h (by rw [e]; exact List.mem_cons_self)), look_out f x r (j + 1) (fun hm => h (List.mem_cons_of_mem _ hm))]
theorem set_in (f : Int → Value) (x : Int) (v : Value) : ∀ (ks : List Int), ks.Nodup → x ∈ ks → setVK (.int .i64) v (ks.idxOf x) (ks.map fun k => (k, f k)) = ks.map fun k => (k, if k = x then v else f k)
  | [], _, h => by simp at h
  | y :: r, hn, h => by
    obtain ⟨h1, h2⟩ := List.nodup_cons.1 hn
    by_cases e : x = y
    · subst e
      simp only [List.idxOf_cons_self, List.map_cons, setVK, if_true, List.cons.injEq, true_and]
      refine List.map_congr_left fun k hk => ?_
      have hne : k ≠ x := fun e => h1 (by rw [← e]; exact hk)
      rw [if_neg hne]
    · rw [idx_ne e]
      rcases List.mem_cons.1 h with h | h
      · exact absurd h e
      · simp only [List.map_cons, setVK, if_neg (Ne.symm e), set_in f x v r h2 h]
/-- 'pins[n]++' where n is there. -/
theorem ent_in {zs : List Int} {i : Nat} (h : i < zs.length) (hm : zs.getD i 0 ∈ ksTo zs i) :
    setVK (.int .i64) (.int .i64 (cntTo zs i (zs.getD i 0) + 1)) ((ksTo zs i).idxOf (zs.getD i 0)) (entTo zs i) = entTo zs (i + 1) := by
  unfold entTo
  rw [set_in _ _ _ _ (ksTo_nodup zs i) hm]
  have : ksTo zs (i + 1) = ksTo zs i := by rw [ksTo, if_pos hm]
  rw [this]
  refine List.map_congr_left fun k hk => ?_
  rw [cntTo_succ h]
  by_cases e : k = zs.getD i 0
  · rw [if_pos e, if_pos e, e]
  · rw [if_neg e, if_neg e]
theorem ent_out {zs : List Int} {i : Nat} (h : i < zs.length) (hm : zs.getD i 0 ∉ ksTo zs i) : entTo zs i ++ [(zs.getD i 0, .int .i64 1)] = entTo zs (i + 1) := by
  unfold entTo
  have : ksTo zs (i + 1) = ksTo zs i ++ [zs.getD i 0] := by rw [ksTo, if_neg hm]
  rw [this, List.map_append]
  have hc : cntTo zs i (zs.getD i 0) = 0 := by
    have h1 : ¬ 0 < cntTo zs i (zs.getD i 0) := fun hc => hm ((ksTo_mem (zs := zs) (i := i) (by omega) (zs.getD i 0)).2 hc)
    have h2 := (cntTo_bnd zs i (zs.getD i 0)).1
    omega
  congr 1
  · refine List.map_congr_left fun k hk => ?_
    have hne : k ≠ zs.getD i 0 := fun e => hm (by rw [← e]; exact hk)
    rw [cntTo_succ h, if_neg hne]
  · simp only [List.map_cons, List.map_nil]
    rw [cntTo_succ h, if_pos rfl, hc]; rfl
theorem cntTo_all (zs : List Int) (k : Int) : cntTo zs zs.length k = (zs.count k : Nat) := by unfold cntTo; rw [List.take_length]
/-- A row of counts. -/
def rowCnt (zs ys : List Int) (i : Nat) : List Int := (List.range 13).map fun k : Nat => cntTo zs i (k : Int) + cntTo ys i (k : Int)
theorem rowCnt_len (zs ys : List Int) (i : Nat) : (rowCnt zs ys i).length = 13 := by simp [rowCnt]
theorem rowCnt_getD (zs ys : List Int) (i : Nat) {k : Nat} (h : k < 13) : (rowCnt zs ys i).getD k 0 = cntTo zs i (k : Int) + cntTo ys i (k : Int) := by
  simp [rowCnt, List.getD, h]
theorem rowCnt_zero (zs ys : List Int) : rowCnt zs ys 0 = List.replicate 13 0 := by simp [rowCnt, cntTo, List.replicate, List.range, List.range.loop]
theorem rowCnt_step {zs ys : List Int} {i : Nat} (hz : i < zs.length) (hy : i < ys.length) (bz : 0 ≤ zs.getD i 0 ∧ zs.getD i 0 ≤ 12) (by' : 0 ≤ ys.getD i 0 ∧ ys.getD i 0 ≤ 12) :
    ((rowCnt zs ys i).set (zs.getD i 0).toNat ((rowCnt zs ys i).getD (zs.getD i 0).toNat 0 + 1)).set (ys.getD i 0).toNat
      ((((rowCnt zs ys i).set (zs.getD i 0).toNat ((rowCnt zs ys i).getD (zs.getD i 0).toNat 0 + 1)).getD (ys.getD i 0).toNat 0) + 1) = rowCnt zs ys (i + 1) := by
  apply List.ext_getElem?
  intro k
  by_cases hk : k < 13
  · have e1 : (rowCnt zs ys (i + 1))[k]? = some (cntTo zs (i + 1) k + cntTo ys (i + 1) k) := by simp [rowCnt, hk]
    have e2 : (rowCnt zs ys i)[k]? = some (cntTo zs i k + cntTo ys i k) := by simp [rowCnt, hk]
    rw [e1, cntTo_succ hz, cntTo_succ hy]
    have hz' : (zs.getD i 0).toNat < 13 := by omega
    have hy' : (ys.getD i 0).toNat < 13 := by omega
    have kz : ((zs.getD i 0).toNat = k) ↔ ((k : Int) = zs.getD i 0) := by omega
    have ky : ((ys.getD i 0).toNat = k) ↔ ((k : Int) = ys.getD i 0) := by omega
    rw [List.getElem?_set, List.getElem?_set, e2]
    simp only [List.length_set, rowCnt_len, hz', hy', if_true]
    by_cases a : (k : Int) = ys.getD i 0
    · rw [if_pos (ky.2 a), if_pos a]
      have e3 : (ys.getD i 0).toNat = k := ky.2 a
      rw [e3]
      by_cases b : (k : Int) = zs.getD i 0
      · have e4 : (zs.getD i 0).toNat = k := kz.2 b
        have g1 : ∀ w, ((rowCnt zs ys i).set k w).getD k 0 = w := fun w => by simp [List.getD, rowCnt_len, hk]
        rw [if_pos b, e4, g1, rowCnt_getD zs ys i hk]
        congr 1; omega
      · rw [if_neg b]
        have e4 : (zs.getD i 0).toNat ≠ k := fun e => b (kz.1 e)
        have g1 : ∀ w, ((rowCnt zs ys i).set (zs.getD i 0).toNat w).getD k 0 = (rowCnt zs ys i).getD k 0 := fun w => by rw [List.getD_eq_getElem?_getD, List.getElem?_set, if_neg e4, ← List.getD_eq_getElem?_getD]
        rw [g1, rowCnt_getD zs ys i hk]
        congr 1 <;> omega
    · rw [if_neg (fun e => a (ky.1 e)), if_neg a]
      by_cases b : (k : Int) = zs.getD i 0
      · rw [if_pos (kz.2 b), if_pos b]
        have e4 : (zs.getD i 0).toNat = k := kz.2 b
        rw [e4, rowCnt_getD zs ys i hk]
        congr 1; omega
      · rw [if_neg (fun e => b (kz.1 e)), if_neg b]
  · rw [List.getElem?_eq_none (by simp [rowCnt_len]; omega), List.getElem?_eq_none (by simp [rowCnt_len]; omega)]
theorem count_app (zs ys : List Int) (k : Int) : (((zs ++ ys).count k : Nat) : Int) = cntTo zs zs.length k + cntTo ys ys.length k := by
  rw [cntTo_all, cntTo_all, List.count_append]; push_cast; rfl
end Go.Proofs.YtmkcahfhnehanaaDoor
end
section
set_option linter.unusedSimpArgs false
set_option linter.unusedVariables false
set_option maxHeartbeats 4000000
namespace Go.Eng
/-- Boxes of one's own, where the number of the caller's is known by a name. -/
theorem getN {N nB : Nat} {s : List (Nat × AVal)} {b l : List ABox} {j : Nat} (h : b.length = nB) : St.get ⟨N, s, b, l⟩ (nB + j) = l.getD j .dead := by
  subst h; exact get_loc
theorem setN {N nB : Nat} {s : List (Nat × AVal)} {b l : List ABox} {j : Nat} {X : ABox} {K : List ABox → List ABox → Prop} (h : b.length = nB) : St.setBox ⟨N, s, b, l⟩ (nB + j) X K = K b (l.set j X) := by
  subst h; exact setBox_loc
/-- A call that changes the caller's caller's boxes, of which something is known. -/
theorem vCall_exBL {P : Program} {ι : Type} {Φ : ι → Prop} {F : ι → AVal} {L : ι → List ABox} {f : FuncId} {args : List AVal} {N : Nat} {s : List (Nat × AVal)} {b l : List ABox} {k : AVal → List ABox → List ABox → Prop}
    (h : AC P f args (b ++ l) (fun r H' => ∃ x, Φ x ∧ r = F x ∧ H' = L x ++ l)) (hL : ∀ x, (L x).length = b.length) (hk : ∀ x, Φ x → ∀ B, L x = B → k (F x) B l) : vCall P (.fn f []) args ⟨N, s, b, l⟩ k := by
  show AC P f (args ++ []) (b ++ l) _
  rw [List.append_nil]
  exact h.mono fun r H' ⟨x, h1, h2, h3⟩ => ⟨L x, l, h3, hL x, h2 ▸ hk x h1 _ rfl⟩
theorem BaseLt.set {n : Nat} {H : List ABox} {j : Nat} {X : ABox} (h : BaseLt n H) (hX : BoxLt n X) : BaseLt n (H.set j X) := fun k hk => by
  have hk' : k < H.length := by simpa using hk
  simp only [List.getD, List.getElem?_set]
  by_cases e : j = k
  · subst e; simp [hk', hX]
  · rw [if_neg e]; exact h k hk'
end Go.Eng
namespace Go.Proofs.YtmkcahfhnehanaaDoor
open Go.Eng
theorem set_app {l m : List ABox} {j : Nat} {X : ABox} (h : j < l.length) : (l ++ m).set j X = l.set j X ++ m := by rw [List.set_append, if_pos h]
/-- A number below n, drawn, where one has boxes of one's own. -/
theorem pickL_ac (cs : List Int) (z : Int × Int) (n : Int) (hn : 1 ≤ n ∧ n ≤ 200) (hx : cs.length ≤ 1000000000) (hu : U8 cs) (hz : 0 ≤ z.1 ∧ z.1 ≤ 1000000000) (l : List ABox) (j : Nat) (hj : j < l.length) (H : List ABox) (hH : BaseLt H.length H) (own : List ABox) :
    AC Tryd.prog 26 [.ptr 1 (H.length + j) 0 0, .v (.int .i64 (n))] ((H ++ l.set j (srcBox cs z)) ++ own) (fun r H' => ∃ x : Int × Int × Int, ((0 ≤ x.1 ∧ x.1 < n) ∧ z.1 ≤ x.2.1 ∧ x.2.1 ≤ z.1 + 1) ∧ r = .v (.int .i64 (x.1)) ∧ H' = (H ++ l.set j (srcBox cs x.2)) ++ own) := by
  have h := pick86e_ac cs z n hn hx hu hz (l.set j (srcBox cs z) ++ own) j (by rw [List.getElem?_append_left (by simpa using hj)]; simp [hj]) H hH
  rw [← List.append_assoc] at h
  refine h.mono fun r H' ⟨x, h1, h2, h3⟩ => ⟨x, h1, h2, ?_⟩
  rw [h3, set_app (by simpa using hj), set_again, List.append_assoc]
/-- The counts of drawn lists grow with them. -/
theorem cntTo_app {zs : List Int} {a k : Int} {i : Nat} (h : i ≤ zs.length) : cntTo (zs ++ [a]) i k = cntTo zs i k := by
  unfold cntTo; rw [List.take_append_of_le_length h]
theorem rowCnt_app {zs ys : List Int} {a b : Int} {i : Nat} (h : i ≤ zs.length) (h2 : i ≤ ys.length) : rowCnt (zs ++ [a]) (ys ++ [b]) i = rowCnt zs ys i := by
  unfold rowCnt
  congr 1
  funext k
  rw [cntTo_app h, cntTo_app h2]
theorem rowCnt_draw {T B : List Int} {a b : Int} {i : Nat} (hT : T.length = i) (hB : B.length = i) (ha : 0 ≤ a ∧ a ≤ 12) (hb : 0 ≤ b ∧ b ≤ 12) :
    ((rowCnt T B i).set a.toNat ((rowCnt T B i).getD a.toNat 0 + 1)).set b.toNat ((((rowCnt T B i).set a.toNat ((rowCnt T B i).getD a.toNat 0 + 1)).getD b.toNat 0) + 1) = rowCnt (T ++ [a]) (B ++ [b]) (i + 1) := by
  have e1 : (T ++ [a]).getD i 0 = a := by simp [List.getD, ← hT]
  have e2 : (B ++ [b]).getD i 0 = b := by simp [List.getD, ← hB]
  have h := rowCnt_step (zs := T ++ [a]) (ys := B ++ [b]) (i := i) (by simp; omega) (by simp; omega) (by rw [e1]; exact ha) (by rw [e2]; exact hb)
  rw [e1, e2, rowCnt_app (by omega) (by omega)] at h
  exact h
theorem rowCnt_all {T B : List Int} (hl : B.length = T.length) {k : Nat} (hk : k < 13) : (rowCnt T B T.length).getD k 0 = (((T ++ B).count (k : Int) : Nat) : Int) := by
  rw [rowCnt_getD _ _ _ hk, count_app, hl]
theorem rowCnt_bnd (T B : List Int) (i : Nat) {k : Nat} (hk : k < 13) : 0 ≤ (rowCnt T B i).getD k 0 ∧ (rowCnt T B i).getD k 0 ≤ 2 * i := by
  rw [rowCnt_getD _ _ _ hk]
  have := cntTo_bnd T i (k : Int)
  have := cntTo_bnd B i (k : Int)
  omega
/-- What is drawn so far. -/
def DrawnL (n : Int) (l : List Int) : Prop := ∀ x ∈ l, 0 ≤ x ∧ x ≤ n
theorem DrawnL.snoc {n : Int} {l : List Int} (h : DrawnL n l) {a : Int} (ha : 0 ≤ a ∧ a ≤ n) : DrawnL n (l ++ [a]) := fun x hx => by
  rcases List.mem_append.1 hx with hx | hx
  · exact h x hx
  · obtain rfl := List.mem_singleton.1 hx; exact ha
theorem DrawnL.at {n : Int} {l : List Int} (h : DrawnL n l) {i : Nat} (hi : i < l.length) : 0 ≤ l.getD i 0 ∧ l.getD i 0 ≤ n := by
  refine h _ ?_
  simp only [List.getD, List.getElem?_eq_getElem hi, Option.getD_some]; exact List.getElem_mem hi
theorem srcBox_lt (n : Nat) (cs : List Int) (z : Int × Int) : BoxLt n (srcBox cs z) := fun i hi => by
  have h : ∀ x ∈ [AVal.rd (.int .u8) cs, .v (.int .i64 z.1), .v (.int .u64 z.2)], IdsLt n x := by
    intro x hx
    simp only [List.mem_cons, List.mem_nil_iff, or_false] at hx
    rcases hx with rfl | rfl | rfl
    · exact (Pl.rd rfl _).ids
    · exact .v _
    · exact .v _
  refine h _ ?_
  simp only [List.getD, List.getElem?_eq_getElem hi, Option.getD_some]; exact List.getElem_mem hi
def ds0 (nB cols n : Nat) (src : AVal) (B : List ABox) : St := ⟨84, [(0, src), (1, .v (.int .i64 ((cols : Int)))), (2, .v (.int .i64 ((n : Int)))), (6, .ptr 1 (nB + 0) 0 0), (7, .ptr 1 (nB + 1) 0 0), (8, .sl 1 (nB + 2) 0 13), (9, .v (.int .i64 (((0 : Nat) : Int))))], B, [.box false [.v (.slice none 0 0), .v (.slice none 0 0)], .box false [.v (.slice none 0 0), .v (.slice none 0 0)], .row false (.int .i64) (rowCnt [] [] 0)]⟩
def ds1 (nB cols n : Nat) (src : AVal) (B : List ABox) (T U : List Int) (i : Nat) : St := ⟨84, [(0, src), (1, .v (.int .i64 ((cols : Int)))), (2, .v (.int .i64 ((n : Int)))), (6, .ptr 1 (nB + 0) 0 0), (7, .ptr 1 (nB + 1) 0 0), (8, .sl 1 (nB + 2) 0 13), (9, .v (.int .i64 ((i : Int))))], B, [.box false [.v (.slice none 0 0), .v (.slice none 0 0)], .box false [.sl 1 (nB + 3) 0 i, .sl 1 (nB + 4) 0 i], .row false (.int .i64) (rowCnt T U i), .row false (.int .i64) T, .row false (.int .i64) U]⟩
def ds2 (nB cols : Nat) (B : List ABox) (C T U : List Int) (i : Nat) : St := ⟨84, [(1, .v (.int .i64 ((cols : Int)))), (6, .ptr 1 (nB + 0) 0 0), (7, .ptr 1 (nB + 1) 0 0), (8, .sl 1 (nB + 2) 0 13), (12, .v (.int .i64 ((i : Int))))], B, [.box false [.v (.slice none 0 0), .v (.slice none 0 0)], .box false [.sl 1 (nB + 3) 0 cols, .sl 1 (nB + 4) 0 cols], .row false (.int .i64) C, .row false (.int .i64) T, .row false (.int .i64) U]⟩
theorem draw27_ac (cs : List Int) (z : Int × Int) (cols n : Nat) (hc : 1 ≤ cols ∧ cols ≤ 8) (hn : 1 ≤ n ∧ n ≤ 5) (hx : cs.length ≤ 1000000000) (hu : U8 cs) (hz : 0 ≤ z.1 ∧ z.1 ≤ 1000) (l : List ABox) (j : Nat) (hjs : l[j]? = some (srcBox cs z)) (H : List ABox) (hH : BaseLt H.length H) :
    AC Tryd.prog 27 [.ptr 1 (H.length + j) 0 0, .v (.int .i64 ((cols : Int))), .v (.int .i64 ((n : Int)))] (H ++ l) (fun r H' => ∃ x : Ch × Int × Int, (ChOk x.1 ∧ x.1.1.length = cols) ∧ r = .agg [.rd (.int .i64) (x.1).1, .rd (.int .i64) (x.1).2] ∧ H' = H ++ l.set j (srcBox cs x.2)) := by
  have hj : j < l.length := (List.getElem?_eq_some_iff.1 hjs).1
  have hself : l.set j (srcBox cs z) = l := set_same hjs
  obtain ⟨nB, hnB⟩ : ∃ nB, (H ++ l).length = nB := ⟨_, rfl⟩
  have hlen : ∀ X, (H ++ l.set j X).length = nB := fun X => by rw [← hnB]; simp
  have hjn : H.length + j < nB := by rw [← hnB]; simp; omega
  have hsl : l = l.set j (srcBox cs z) := hself.symm
  obtain ⟨B0, hB0⟩ : ∃ B0, H ++ l = B0 := ⟨_, rfl⟩
  have hB0' : H ++ l.set j (srcBox cs z) = B0 := by rw [hself]; exact hB0
  rw [hB0]
  rw [hB0] at hnB
  refine AC.enter envOk Tryd.func27 rfl (by decide) Tryd.ntmps27 Tryd.results27 (by simp) fun hB => ?_
  have hBL : ∀ y : Int × Int, BaseLt nB (H ++ l.set j (srcBox cs y)) := fun y => by
    rw [hnB, ← hB0] at hB
    rw [show H ++ l.set j (srcBox cs y) = (H ++ l).set (H.length + j) (srcBox cs y) by rw [List.set_append, if_neg (by omega), Nat.add_sub_cancel_left]]
    exact hB.set (srcBox_lt _ _ _)
  repeat' (first | (with_reducible first | refine AW.sreg envOk fun K hK => ?_ | refine AW.region envOk fun K hK => ?_ | refine vcL_nil ?_) | (with_reducible (first | refine vcL_cons fun K' hK' => ?_); simp only [isC, Bool.false_or, Bool.or_true, vAppend, elems, ↓reduceDIte, List.take_length, Nat.le_refl, List.drop_zero, vGuard, undef, Bool.not_eq_eq_eq_not, dstOk, vcOp, vcF, isPure, putS, vcCall, St.ev, St.put, lk, AVal.ofVal, initS, Nat.reduceLT, true_and, and_true, vBin, vPart, vLoad, vStore, vIdxA, vFldA, vAlloc, vBuild, vBuildSl, vMake, partsA, fillA, decAll, AVal.flat, AVal.cell, cellsOk, setRange, ETy.enc, ETy.dec, ETy.sz, ETy.d, cond, Nat.reduceBEq, Nat.reduceAdd, Int.toNat_natCast, List.length_set, List.length_append, List.length_replicate, List.length_take, Nat.reduceSub, Nat.reduceEqDiff, get_loc, setBox_loc, next_eq, List.length_cons, List.length_nil, List.map_cons, List.map_nil, List.append_nil, List.nil_append, List.cons_append, List.set_cons_zero, List.set_cons_succ, getD_zero, getD_succ, List.getElem?_cons_succ, List.getElem?_cons_zero, List.take_succ_cons, List.take_zero, List.drop_succ_cons, List.all_cons, List.all_nil, Bool.and_true, Bool.true_and, Option.bind_some, Option.map_some, Option.map_none, decide_eq_true_eq, decide_eq_false_iff_not, ne_eq, Bool.not_eq_true, Bool.not_eq_false, Decidable.not_not, not_true_eq_false, not_false_eq_true, forall_const, false_implies, Bool.true_eq_false, Bool.false_eq_true, reduceCtorEq, decide_true, decide_false, Bool.not_true, Bool.not_false, if_true, if_false, Nat.zero_add, Nat.lt_irrefl, Value.oneCell', gt_iff_lt, Nat.reduceLeDiff, Nat.lt_add_one, vSealSl, vvar_1, vzero_1, vvar_2, vzero_2, vknd_2, vsn_2, vvar_4, vzero_4, vknd_4, vsn_4, vvar_6, vzero_6, vknd_6, vsn_6, vsl_24, vkn_24, vvar_24, vzero_24, vvar_26, vzero_26, vbld_26, vvar_57, vzero_57, vfld_26_0, vfld_26_1, hnB, getN hnB, setN hnB]; try simp (disch := omega) only [wrap64]) | (with_reducible refine hK' _ ?_; clear hK' K') | (with_reducible refine hK _ ?_; clear hK K) | (with_reducible first | refine And.intro (And.intro rfl rfl) ?_ | refine And.intro (by omega) ?_) | (with_reducible refine And.intro (fun hg => ?_) (fun hg => ?_) <;> first | simp only [eq_false hg, rsB] | simp only [eq_true hg, rsB] | simp only [hg, rsB]) | (with_reducible first | refine And.intro rfl (And.intro rfl rfl) | refine thenQ_n ?_ | refine thenQ_exit ?_ | refine thenQ_ret ?_ | refine midQ_ret ?_ | refine midQ_exit ?_ | refine blockQ_same ?_ | refine blockQ_ne (by decide) ?_ | refine blockQ_ret ?_ | refine blockQ_n ?_ | refine AW.exit ?_ | refine AW.block ?_ | refine AW.cond_t rfl ?_ | refine AW.cond_f rfl ?_ | refine AW.cond_dec rfl (fun hc => ?_) (fun hc => ?_)) | (with_reducible refine AW.cond rfl (fun hc => ?_) (fun hc => ?_) <;> try simp only [Bool.not_eq_eq_eq_not, Bool.not_true, Bool.not_false, decide_eq_true_eq, decide_eq_false_iff_not] at hc) | (with_reducible first | refine AW.seq ?_ | refine AW.skip ?_ | refine AW.ret ?_ | refine And.intro ?_ ?_) | (with_reducible intro hg; first | simp only [eq_false hg, rsB] | simp only [eq_true hg, rsB]) | (with_reducible refine retQ_drop ?_; simp only [vRes, packRes, vLoad, vPart, lk, cond, Nat.reduceBEq, get_loc, getD_zero, getD_succ, true_and, List.length_cons, List.length_nil, Nat.reduceAdd, Nat.reduceLT, Nat.reduceLeDiff, List.take_succ_cons, List.take_zero, List.drop_succ_cons, List.drop_zero, vvar_1, vzero_1, vvar_2, vzero_2, vknd_2, vsn_2, vvar_4, vzero_4, vknd_4, vsn_4, vvar_6, vzero_6, vknd_6, vsn_6, vsl_24, vkn_24, vvar_24, vzero_24, vvar_26, vzero_26, vbld_26, vvar_57, vzero_57, vfld_26_0, vfld_26_1]) )
  refine AW.loop (fun q : Nat × List Int × List Int × Int × Int => if q.1 = 0 then ds0 nB cols n (.ptr 1 (H.length + j) 0 0) (H ++ l.set j (srcBox cs q.2.2.2)) else ds1 nB cols n (.ptr 1 (H.length + j) 0 0) (H ++ l.set j (srcBox cs q.2.2.2)) q.2.1 q.2.2.1 q.1)
    (fun q => (q.1 ≤ cols ∧ q.2.1.length = q.1 ∧ q.2.2.1.length = q.1) ∧ (DrawnL (n : Int) q.2.1 ∧ DrawnL (n : Int) q.2.2.1) ∧ z.1 ≤ q.2.2.2.1 ∧ q.2.2.2.1 ≤ z.1 + 2 * (q.1 : Int)) (fun q => cols - q.1) (0, [], [], z) ⟨⟨Nat.zero_le _, rfl, rfl⟩, ⟨fun x hx => by simp at hx, fun x hx => by simp at hx⟩, by simp only; omega, by simp only; omega⟩ ?_ ?_
  · simp only [if_true]
    unfold ds0
    rw [hB0', rowCnt_zero]
    exact (Weak.slots (by repeat' first | exact trivial | exact ⟨rfl, trivial⟩ | refine ⟨rfl, ?_⟩))
  intro ⟨i, T, U, z1, sd⟩ ⟨⟨hi, hT, hU⟩, ⟨dT, dU⟩, hz1, hz2⟩
  simp only at hi hT hU dT dU hz1 hz2
  obtain ⟨B, hB1⟩ : ∃ B, H ++ l.set j (srcBox cs (z1, sd)) = B := ⟨_, rfl⟩
  have hl : B.length = nB := hB1 ▸ hlen _
  have hBB : BaseLt nB B := hB1 ▸ hBL _
  have hp1 := fun own => pickL_ac cs (z1, sd) ((n : Int) + 1) (by omega) hx hu (by simp only; omega) l j hj H hH own
  simp only [hB1] at hp1 ⊢
  by_cases h0 : i = 0
  · subst h0
    obtain rfl := List.length_eq_zero_iff.1 hT
    obtain rfl := List.length_eq_zero_iff.1 hU
    rw [if_pos rfl]
    unfold ds0
    repeat' (first | (with_reducible first | refine AW.sreg envOk fun K hK => ?_ | refine AW.region envOk fun K hK => ?_ | refine vcL_nil ?_) | (with_reducible (first | refine vcL_cons fun K' hK' => ?_); simp only [isC, Bool.false_or, Bool.or_true, vAppend, elems, ↓reduceDIte, List.take_length, Nat.le_refl, List.drop_zero, vGuard, undef, Bool.not_eq_eq_eq_not, dstOk, vcOp, vcF, isPure, putS, vcCall, St.ev, St.put, lk, AVal.ofVal, initS, Nat.reduceLT, true_and, and_true, vBin, vPart, vLoad, vStore, vIdxA, vFldA, vAlloc, vBuild, vBuildSl, vMake, partsA, fillA, decAll, AVal.flat, AVal.cell, cellsOk, setRange, ETy.enc, ETy.dec, ETy.sz, ETy.d, cond, Nat.reduceBEq, Nat.reduceAdd, Int.toNat_natCast, List.length_set, List.length_append, List.length_replicate, List.length_take, Nat.reduceSub, Nat.reduceEqDiff, get_loc, setBox_loc, next_eq, List.length_cons, List.length_nil, List.map_cons, List.map_nil, List.append_nil, List.nil_append, List.cons_append, List.set_cons_zero, List.set_cons_succ, getD_zero, getD_succ, List.getElem?_cons_succ, List.getElem?_cons_zero, List.take_succ_cons, List.take_zero, List.drop_succ_cons, List.all_cons, List.all_nil, Bool.and_true, Bool.true_and, Option.bind_some, Option.map_some, Option.map_none, decide_eq_true_eq, decide_eq_false_iff_not, ne_eq, Bool.not_eq_true, Bool.not_eq_false, Decidable.not_not, not_true_eq_false, not_false_eq_true, forall_const, false_implies, Bool.true_eq_false, Bool.false_eq_true, reduceCtorEq, decide_true, decide_false, Bool.not_true, Bool.not_false, if_true, if_false, Nat.zero_add, Nat.lt_irrefl, Value.oneCell', gt_iff_lt, Nat.reduceLeDiff, Nat.lt_add_one, vSealSl, vvar_1, vzero_1, vvar_2, vzero_2, vknd_2, vsn_2, vvar_4, vzero_4, vknd_4, vsn_4, vvar_6, vzero_6, vknd_6, vsn_6, vsl_24, vkn_24, vvar_24, vzero_24, vvar_26, vzero_26, vbld_26, vvar_57, vzero_57, vfld_26_0, vfld_26_1, hl, getN hl, setN hl]; try simp (disch := omega) only [wrap64]) | (with_reducible refine hK' _ ?_; clear hK' K') | (with_reducible refine hK _ ?_; clear hK K) | (with_reducible first | refine And.intro (And.intro rfl rfl) ?_ | refine And.intro (by omega) ?_) | (with_reducible refine And.intro (fun hg => ?_) (fun hg => ?_) <;> first | simp only [eq_false hg, rsB] | simp only [eq_true hg, rsB] | simp only [hg, rsB]) | (with_reducible first | refine And.intro rfl (And.intro rfl rfl) | refine thenQ_n ?_ | refine thenQ_exit ?_ | refine thenQ_ret ?_ | refine midQ_ret ?_ | refine midQ_exit ?_ | refine blockQ_same ?_ | refine blockQ_ne (by decide) ?_ | refine blockQ_ret ?_ | refine blockQ_n ?_ | refine AW.exit ?_ | refine AW.block ?_ | refine AW.cond_t rfl ?_ | refine AW.cond_f rfl ?_ | refine AW.cond_dec rfl (fun hc => ?_) (fun hc => ?_)) | (with_reducible refine AW.cond rfl (fun hc => ?_) (fun hc => ?_) <;> try simp only [Bool.not_eq_eq_eq_not, Bool.not_true, Bool.not_false, decide_eq_true_eq, decide_eq_false_iff_not] at hc) | (with_reducible first | refine AW.seq ?_ | refine AW.skip ?_ | refine AW.ret ?_ | refine And.intro ?_ ?_) | (with_reducible intro hg; first | simp only [eq_false hg, rsB] | simp only [eq_true hg, rsB]) | (with_reducible refine retQ_drop ?_; simp only [vRes, packRes, vLoad, vPart, lk, cond, Nat.reduceBEq, get_loc, getD_zero, getD_succ, true_and, List.length_cons, List.length_nil, Nat.reduceAdd, Nat.reduceLT, Nat.reduceLeDiff, List.take_succ_cons, List.take_zero, List.drop_succ_cons, List.drop_zero, vvar_1, vzero_1, vvar_2, vzero_2, vknd_2, vsn_2, vvar_4, vzero_4, vknd_4, vsn_4, vvar_6, vzero_6, vknd_6, vsn_6, vsl_24, vkn_24, vvar_24, vzero_24, vvar_26, vzero_26, vbld_26, vvar_57, vzero_57, vfld_26_0, vfld_26_1]) )
    all_goals first
      | (exfalso; omega)
      | skip
    refine vCall_exBL (hp1 _) (fun x => by rw [hl]; exact hlen _) (fun x hx0 B2 hB2 => ?_)
    obtain ⟨a, z2, sd2⟩ := x
    simp only at hx0 hB2 ⊢
    have hl2 : B2.length = nB := hB2 ▸ hlen _
    have hp2 := fun own => pickL_ac cs (z2, sd2) ((n : Int) + 1) (by omega) hx hu (by simp only; omega) l j hj H hH own
    simp only [hB2] at hp2
    repeat' (first | (with_reducible first | refine AW.sreg envOk fun K hK => ?_ | refine AW.region envOk fun K hK => ?_ | refine vcL_nil ?_) | (with_reducible (first | refine vcL_cons fun K' hK' => ?_); simp only [isC, Bool.false_or, Bool.or_true, vAppend, elems, ↓reduceDIte, List.take_length, Nat.le_refl, List.drop_zero, vGuard, undef, Bool.not_eq_eq_eq_not, dstOk, vcOp, vcF, isPure, putS, vcCall, St.ev, St.put, lk, AVal.ofVal, initS, Nat.reduceLT, true_and, and_true, vBin, vPart, vLoad, vStore, vIdxA, vFldA, vAlloc, vBuild, vBuildSl, vMake, partsA, fillA, decAll, AVal.flat, AVal.cell, cellsOk, setRange, ETy.enc, ETy.dec, ETy.sz, ETy.d, cond, Nat.reduceBEq, Nat.reduceAdd, Int.toNat_natCast, List.length_set, List.length_append, List.length_replicate, List.length_take, Nat.reduceSub, Nat.reduceEqDiff, get_loc, setBox_loc, next_eq, List.length_cons, List.length_nil, List.map_cons, List.map_nil, List.append_nil, List.nil_append, List.cons_append, List.set_cons_zero, List.set_cons_succ, getD_zero, getD_succ, List.getElem?_cons_succ, List.getElem?_cons_zero, List.take_succ_cons, List.take_zero, List.drop_succ_cons, List.all_cons, List.all_nil, Bool.and_true, Bool.true_and, Option.bind_some, Option.map_some, Option.map_none, decide_eq_true_eq, decide_eq_false_iff_not, ne_eq, Bool.not_eq_true, Bool.not_eq_false, Decidable.not_not, not_true_eq_false, not_false_eq_true, forall_const, false_implies, Bool.true_eq_false, Bool.false_eq_true, reduceCtorEq, decide_true, decide_false, Bool.not_true, Bool.not_false, if_true, if_false, Nat.zero_add, Nat.lt_irrefl, Value.oneCell', gt_iff_lt, Nat.reduceLeDiff, Nat.lt_add_one, vSealSl, vvar_1, vzero_1, vvar_2, vzero_2, vknd_2, vsn_2, vvar_4, vzero_4, vknd_4, vsn_4, vvar_6, vzero_6, vknd_6, vsn_6, vsl_24, vkn_24, vvar_24, vzero_24, vvar_26, vzero_26, vbld_26, vvar_57, vzero_57, vfld_26_0, vfld_26_1, hl2, getN hl2, setN hl2]; try simp (disch := omega) only [wrap64]) | (with_reducible refine hK' _ ?_; clear hK' K') | (with_reducible refine hK _ ?_; clear hK K) | (with_reducible first | refine And.intro (And.intro rfl rfl) ?_ | refine And.intro (by omega) ?_) | (with_reducible refine And.intro (fun hg => ?_) (fun hg => ?_) <;> first | simp only [eq_false hg, rsB] | simp only [eq_true hg, rsB] | simp only [hg, rsB]) | (with_reducible first | refine And.intro rfl (And.intro rfl rfl) | refine thenQ_n ?_ | refine thenQ_exit ?_ | refine thenQ_ret ?_ | refine midQ_ret ?_ | refine midQ_exit ?_ | refine blockQ_same ?_ | refine blockQ_ne (by decide) ?_ | refine blockQ_ret ?_ | refine blockQ_n ?_ | refine AW.exit ?_ | refine AW.block ?_ | refine AW.cond_t rfl ?_ | refine AW.cond_f rfl ?_ | refine AW.cond_dec rfl (fun hc => ?_) (fun hc => ?_)) | (with_reducible refine AW.cond rfl (fun hc => ?_) (fun hc => ?_) <;> try simp only [Bool.not_eq_eq_eq_not, Bool.not_true, Bool.not_false, decide_eq_true_eq, decide_eq_false_iff_not] at hc) | (with_reducible first | refine AW.seq ?_ | refine AW.skip ?_ | refine AW.ret ?_ | refine And.intro ?_ ?_) | (with_reducible intro hg; first | simp only [eq_false hg, rsB] | simp only [eq_true hg, rsB]) | (with_reducible refine retQ_drop ?_; simp only [vRes, packRes, vLoad, vPart, lk, cond, Nat.reduceBEq, get_loc, getD_zero, getD_succ, true_and, List.length_cons, List.length_nil, Nat.reduceAdd, Nat.reduceLT, Nat.reduceLeDiff, List.take_succ_cons, List.take_zero, List.drop_succ_cons, List.drop_zero, vvar_1, vzero_1, vvar_2, vzero_2, vknd_2, vsn_2, vvar_4, vzero_4, vknd_4, vsn_4, vvar_6, vzero_6, vknd_6, vsn_6, vsl_24, vkn_24, vvar_24, vzero_24, vvar_26, vzero_26, vbld_26, vvar_57, vzero_57, vfld_26_0, vfld_26_1]) )
    refine vCall_exBL (hp2 _) (fun x => by rw [hl2]; exact hlen _) (fun x hy0 B3 hB3 => ?_)
    obtain ⟨b, z3, sd3⟩ := x
    simp only at hy0 hB3 ⊢
    have hl3 : B3.length = nB := hB3 ▸ hlen _
    have hBB3 : BaseLt nB B3 := hB3 ▸ hBL _
    have hc1 := rowCnt_bnd [] [] 0 (k := a.toNat) (by omega)
    have hc2 := rowCnt_len [] [] 0
    have hdr := rowCnt_draw (T := []) (B := []) (a := a) (b := b) (i := 0) rfl rfl (by omega) (by omega)
    have hc3 : 0 ≤ ((rowCnt [] [] 0).set a.toNat ((rowCnt [] [] 0).getD a.toNat 0 + 1)).getD b.toNat 0 ∧ ((rowCnt [] [] 0).set a.toNat ((rowCnt [] [] 0).getD a.toNat 0 + 1)).getD b.toNat 0 ≤ 100 := by
      have h1 := rowCnt_bnd [] [] 0 (k := b.toNat) (by omega)
      rw [List.getD_eq_getElem?_getD, List.getElem?_set]
      split
      · split
        · simp only [Option.getD_some]; omega
        · simp only [Option.getD_none]; omega
      · rw [← List.getD_eq_getElem?_getD]; omega
    repeat' (first | (with_reducible first | refine AW.sreg envOk fun K hK => ?_ | refine AW.region envOk fun K hK => ?_ | refine vcL_nil ?_) | (with_reducible (first | refine vcL_cons fun K' hK' => ?_); simp only [isC, Bool.false_or, Bool.or_true, vAppend, elems, ↓reduceDIte, List.take_length, Nat.le_refl, List.drop_zero, vGuard, undef, Bool.not_eq_eq_eq_not, dstOk, vcOp, vcF, isPure, putS, vcCall, St.ev, St.put, lk, AVal.ofVal, initS, Nat.reduceLT, true_and, and_true, vBin, vPart, vLoad, vStore, vIdxA, vFldA, vAlloc, vBuild, vBuildSl, vMake, partsA, fillA, decAll, AVal.flat, AVal.cell, cellsOk, setRange, ETy.enc, ETy.dec, ETy.sz, ETy.d, cond, Nat.reduceBEq, Nat.reduceAdd, Int.toNat_natCast, List.length_set, List.length_append, List.length_replicate, List.length_take, Nat.reduceSub, Nat.reduceEqDiff, get_loc, setBox_loc, next_eq, List.length_cons, List.length_nil, List.map_cons, List.map_nil, List.append_nil, List.nil_append, List.cons_append, List.set_cons_zero, List.set_cons_succ, getD_zero, getD_succ, List.getElem?_cons_succ, List.getElem?_cons_zero, List.take_succ_cons, List.take_zero, List.drop_succ_cons, List.all_cons, List.all_nil, Bool.and_true, Bool.true_and, Option.bind_some, Option.map_some, Option.map_none, decide_eq_true_eq, decide_eq_false_iff_not, ne_eq, Bool.not_eq_true, Bool.not_eq_false, Decidable.not_not, not_true_eq_false, not_false_eq_true, forall_const, false_implies, Bool.true_eq_false, Bool.false_eq_true, reduceCtorEq, decide_true, decide_false, Bool.not_true, Bool.not_false, if_true, if_false, Nat.zero_add, Nat.lt_irrefl, Value.oneCell', gt_iff_lt, Nat.reduceLeDiff, Nat.lt_add_one, vSealSl, vvar_1, vzero_1, vvar_2, vzero_2, vknd_2, vsn_2, vvar_4, vzero_4, vknd_4, vsn_4, vvar_6, vzero_6, vknd_6, vsn_6, vsl_24, vkn_24, vvar_24, vzero_24, vvar_26, vzero_26, vbld_26, vvar_57, vzero_57, vfld_26_0, vfld_26_1, hl3, getN hl3, setN hl3, hc2]; try simp (disch := omega) only [wrap64]) | (with_reducible refine hK' _ ?_; clear hK' K') | (with_reducible refine hK _ ?_; clear hK K) | (with_reducible first | refine And.intro (And.intro rfl rfl) ?_ | refine And.intro (by omega) ?_) | (with_reducible refine And.intro (fun hg => ?_) (fun hg => ?_) <;> first | simp only [eq_false hg, rsB] | simp only [eq_true hg, rsB] | simp only [hg, rsB]) | (with_reducible first | refine And.intro rfl (And.intro rfl rfl) | refine thenQ_n ?_ | refine thenQ_exit ?_ | refine thenQ_ret ?_ | refine midQ_ret ?_ | refine midQ_exit ?_ | refine blockQ_same ?_ | refine blockQ_ne (by decide) ?_ | refine blockQ_ret ?_ | refine blockQ_n ?_ | refine AW.exit ?_ | refine AW.block ?_ | refine AW.cond_t rfl ?_ | refine AW.cond_f rfl ?_ | refine AW.cond_dec rfl (fun hc => ?_) (fun hc => ?_)) | (with_reducible refine AW.cond rfl (fun hc => ?_) (fun hc => ?_) <;> try simp only [Bool.not_eq_eq_eq_not, Bool.not_true, Bool.not_false, decide_eq_true_eq, decide_eq_false_iff_not] at hc) | (with_reducible first | refine AW.seq ?_ | refine AW.skip ?_ | refine AW.ret ?_ | refine And.intro ?_ ?_) | (with_reducible intro hg; first | simp only [eq_false hg, rsB] | simp only [eq_true hg, rsB]) | (with_reducible refine retQ_drop ?_; simp only [vRes, packRes, vLoad, vPart, lk, cond, Nat.reduceBEq, get_loc, getD_zero, getD_succ, true_and, List.length_cons, List.length_nil, Nat.reduceAdd, Nat.reduceLT, Nat.reduceLeDiff, List.take_succ_cons, List.take_zero, List.drop_succ_cons, List.drop_zero, vvar_1, vzero_1, vvar_2, vzero_2, vknd_2, vsn_2, vvar_4, vzero_4, vknd_4, vsn_4, vvar_6, vzero_6, vknd_6, vsn_6, vsl_24, vkn_24, vvar_24, vzero_24, vvar_26, vzero_26, vbld_26, vvar_57, vzero_57, vfld_26_0, vfld_26_1]) )
    all_goals first
      | (exfalso; omega)
      | skip
    refine ⟨(1, [a], [b], z3, sd3), ⟨⟨by simp only; omega, rfl, rfl⟩, ⟨fun x hx => by simp only [List.mem_singleton] at hx; omega, fun x hx => by simp only [List.mem_singleton] at hx; omega⟩, by simp only; omega, by simp only; omega⟩, by simp only; omega, ?_⟩
    rw [if_neg (by simp)]
    unfold ds1
    simp only [hB3]
    simp only [List.nil_append, Nat.zero_add] at hdr
    rw [← hdr]
    exact Weak.sel [0, 1, 2, 4, 6] hBB3 (by decide) (by (repeat' (first | exact trivial | exact RenB.plRow rfl | exact RenB.dead _ | exact RenB.map _ _ | exact RenB.iter rfl | refine And.intro ?_ ?_ | (refine RenB.plBox ?_; (repeat' (first | exact Pl.v _ | exact Pl.junk | exact Pl.rd rfl _ | exact pl_nil | refine pl_cons ?_ ?_ | refine Pl.agg ?_ | refine Pl.tup ?_ | refine Pl.rp ?_ | refine Pl.fn ?_)); (first | done | fail)) | refine RenB.of ?_ | exact RenV.ptr rfl | exact RenV.sl rfl | exact RenV.mp rfl | exact RenV.it rfl | exact RenV.low (IdsLt.mp (by assumption)) | (refine RenV.pl ?_; (repeat' (first | exact Pl.v _ | exact Pl.junk | exact Pl.rd rfl _ | exact pl_nil | refine pl_cons ?_ ?_ | refine Pl.agg ?_ | refine Pl.tup ?_ | refine Pl.rp ?_ | refine Pl.fn ?_)); (first | done | fail)) | refine RenV.aggL ?_ | refine RenV.fnL ?_ | exact Nat.lt_of_sub_pos (by decide) | (simp; (first | done | fail)))); (first | done | fail)) (by (repeat' (first | exact trivial | exact RenV.ptr rfl | exact RenV.sl rfl | exact RenV.mp rfl | exact RenV.it rfl | exact RenV.low (IdsLt.mp (by assumption)) | exact RenV.low (.v _) | exact RenV.low (IdsLt.ptr (by assumption)) | (refine RenV.pl ?_; (repeat' (first | exact Pl.v _ | exact Pl.junk | exact Pl.rd rfl _ | exact pl_nil | refine pl_cons ?_ ?_ | refine Pl.agg ?_ | refine Pl.tup ?_ | refine Pl.rp ?_ | refine Pl.fn ?_)); (first | done | fail)) | refine RenV.fnL ?_ | refine RenV.aggL ?_ | refine And.intro ?_ ?_)); (first | done | fail)) hl3
  · rw [if_neg h0]
    unfold ds1
    have htk : T.take i = T := List.take_of_length_le (by omega)
    have huk : U.take i = U := List.take_of_length_le (by omega)
    by_cases hin : i < cols
    ·
      repeat' (first | (with_reducible first | refine AW.sreg envOk fun K hK => ?_ | refine AW.region envOk fun K hK => ?_ | refine vcL_nil ?_) | (with_reducible (first | refine vcL_cons fun K' hK' => ?_); simp only [isC, Bool.false_or, Bool.or_true, vAppend, elems, ↓reduceDIte, List.take_length, Nat.le_refl, List.drop_zero, vGuard, undef, Bool.not_eq_eq_eq_not, dstOk, vcOp, vcF, isPure, putS, vcCall, St.ev, St.put, lk, AVal.ofVal, initS, Nat.reduceLT, true_and, and_true, vBin, vPart, vLoad, vStore, vIdxA, vFldA, vAlloc, vBuild, vBuildSl, vMake, partsA, fillA, decAll, AVal.flat, AVal.cell, cellsOk, setRange, ETy.enc, ETy.dec, ETy.sz, ETy.d, cond, Nat.reduceBEq, Nat.reduceAdd, Int.toNat_natCast, List.length_set, List.length_append, List.length_replicate, List.length_take, Nat.reduceSub, Nat.reduceEqDiff, get_loc, setBox_loc, next_eq, List.length_cons, List.length_nil, List.map_cons, List.map_nil, List.append_nil, List.nil_append, List.cons_append, List.set_cons_zero, List.set_cons_succ, getD_zero, getD_succ, List.getElem?_cons_succ, List.getElem?_cons_zero, List.take_succ_cons, List.take_zero, List.drop_succ_cons, List.all_cons, List.all_nil, Bool.and_true, Bool.true_and, Option.bind_some, Option.map_some, Option.map_none, decide_eq_true_eq, decide_eq_false_iff_not, ne_eq, Bool.not_eq_true, Bool.not_eq_false, Decidable.not_not, not_true_eq_false, not_false_eq_true, forall_const, false_implies, Bool.true_eq_false, Bool.false_eq_true, reduceCtorEq, decide_true, decide_false, Bool.not_true, Bool.not_false, if_true, if_false, Nat.zero_add, Nat.lt_irrefl, Value.oneCell', gt_iff_lt, Nat.reduceLeDiff, Nat.lt_add_one, vSealSl, vvar_1, vzero_1, vvar_2, vzero_2, vknd_2, vsn_2, vvar_4, vzero_4, vknd_4, vsn_4, vvar_6, vzero_6, vknd_6, vsn_6, vsl_24, vkn_24, vvar_24, vzero_24, vvar_26, vzero_26, vbld_26, vvar_57, vzero_57, vfld_26_0, vfld_26_1, hl, getN hl, setN hl]; try simp (disch := omega) only [wrap64]) | (with_reducible refine hK' _ ?_; clear hK' K') | (with_reducible refine hK _ ?_; clear hK K) | (with_reducible first | refine And.intro (And.intro rfl rfl) ?_ | refine And.intro (by omega) ?_) | (with_reducible refine And.intro (fun hg => ?_) (fun hg => ?_) <;> first | simp only [eq_false hg, rsB] | simp only [eq_true hg, rsB] | simp only [hg, rsB]) | (with_reducible first | refine And.intro rfl (And.intro rfl rfl) | refine thenQ_n ?_ | refine thenQ_exit ?_ | refine thenQ_ret ?_ | refine midQ_ret ?_ | refine midQ_exit ?_ | refine blockQ_same ?_ | refine blockQ_ne (by decide) ?_ | refine blockQ_ret ?_ | refine blockQ_n ?_ | refine AW.exit ?_ | refine AW.block ?_ | refine AW.cond_t rfl ?_ | refine AW.cond_f rfl ?_ | refine AW.cond_dec rfl (fun hc => ?_) (fun hc => ?_)) | (with_reducible refine AW.cond rfl (fun hc => ?_) (fun hc => ?_) <;> try simp only [Bool.not_eq_eq_eq_not, Bool.not_true, Bool.not_false, decide_eq_true_eq, decide_eq_false_iff_not] at hc) | (with_reducible first | refine AW.seq ?_ | refine AW.skip ?_ | refine AW.ret ?_ | refine And.intro ?_ ?_) | (with_reducible intro hg; first | simp only [eq_false hg, rsB] | simp only [eq_true hg, rsB]) | (with_reducible refine retQ_drop ?_; simp only [vRes, packRes, vLoad, vPart, lk, cond, Nat.reduceBEq, get_loc, getD_zero, getD_succ, true_and, List.length_cons, List.length_nil, Nat.reduceAdd, Nat.reduceLT, Nat.reduceLeDiff, List.take_succ_cons, List.take_zero, List.drop_succ_cons, List.drop_zero, vvar_1, vzero_1, vvar_2, vzero_2, vknd_2, vsn_2, vvar_4, vzero_4, vknd_4, vsn_4, vvar_6, vzero_6, vknd_6, vsn_6, vsl_24, vkn_24, vvar_24, vzero_24, vvar_26, vzero_26, vbld_26, vvar_57, vzero_57, vfld_26_0, vfld_26_1]) )
      all_goals first
        | (exfalso; omega)
        | skip
      refine vCall_exBL (hp1 _) (fun x => by rw [hl]; exact hlen _) (fun x hx0 B2 hB2 => ?_)
      obtain ⟨a, z2, sd2⟩ := x
      simp only at hx0 hB2 ⊢
      have hl2 : B2.length = nB := hB2 ▸ hlen _
      have hp2 := fun own => pickL_ac cs (z2, sd2) ((n : Int) + 1) (by omega) hx hu (by simp only; omega) l j hj H hH own
      simp only [hB2] at hp2
      repeat' (first | (with_reducible first | refine AW.sreg envOk fun K hK => ?_ | refine AW.region envOk fun K hK => ?_ | refine vcL_nil ?_) | (with_reducible (first | refine vcL_cons fun K' hK' => ?_); simp only [isC, Bool.false_or, Bool.or_true, vAppend, elems, ↓reduceDIte, List.take_length, Nat.le_refl, List.drop_zero, vGuard, undef, Bool.not_eq_eq_eq_not, dstOk, vcOp, vcF, isPure, putS, vcCall, St.ev, St.put, lk, AVal.ofVal, initS, Nat.reduceLT, true_and, and_true, vBin, vPart, vLoad, vStore, vIdxA, vFldA, vAlloc, vBuild, vBuildSl, vMake, partsA, fillA, decAll, AVal.flat, AVal.cell, cellsOk, setRange, ETy.enc, ETy.dec, ETy.sz, ETy.d, cond, Nat.reduceBEq, Nat.reduceAdd, Int.toNat_natCast, List.length_set, List.length_append, List.length_replicate, List.length_take, Nat.reduceSub, Nat.reduceEqDiff, get_loc, setBox_loc, next_eq, List.length_cons, List.length_nil, List.map_cons, List.map_nil, List.append_nil, List.nil_append, List.cons_append, List.set_cons_zero, List.set_cons_succ, getD_zero, getD_succ, List.getElem?_cons_succ, List.getElem?_cons_zero, List.take_succ_cons, List.take_zero, List.drop_succ_cons, List.all_cons, List.all_nil, Bool.and_true, Bool.true_and, Option.bind_some, Option.map_some, Option.map_none, decide_eq_true_eq, decide_eq_false_iff_not, ne_eq, Bool.not_eq_true, Bool.not_eq_false, Decidable.not_not, not_true_eq_false, not_false_eq_true, forall_const, false_implies, Bool.true_eq_false, Bool.false_eq_true, reduceCtorEq, decide_true, decide_false, Bool.not_true, Bool.not_false, if_true, if_false, Nat.zero_add, Nat.lt_irrefl, Value.oneCell', gt_iff_lt, Nat.reduceLeDiff, Nat.lt_add_one, vSealSl, vvar_1, vzero_1, vvar_2, vzero_2, vknd_2, vsn_2, vvar_4, vzero_4, vknd_4, vsn_4, vvar_6, vzero_6, vknd_6, vsn_6, vsl_24, vkn_24, vvar_24, vzero_24, vvar_26, vzero_26, vbld_26, vvar_57, vzero_57, vfld_26_0, vfld_26_1, hl2, getN hl2, setN hl2]; try simp (disch := omega) only [wrap64]) | (with_reducible refine hK' _ ?_; clear hK' K') | (with_reducible refine hK _ ?_; clear hK K) | (with_reducible first | refine And.intro (And.intro rfl rfl) ?_ | refine And.intro (by omega) ?_) | (with_reducible refine And.intro (fun hg => ?_) (fun hg => ?_) <;> first | simp only [eq_false hg, rsB] | simp only [eq_true hg, rsB] | simp only [hg, rsB]) | (with_reducible first | refine And.intro rfl (And.intro rfl rfl) | refine thenQ_n ?_ | refine thenQ_exit ?_ | refine thenQ_ret ?_ | refine midQ_ret ?_ | refine midQ_exit ?_ | refine blockQ_same ?_ | refine blockQ_ne (by decide) ?_ | refine blockQ_ret ?_ | refine blockQ_n ?_ | refine AW.exit ?_ | refine AW.block ?_ | refine AW.cond_t rfl ?_ | refine AW.cond_f rfl ?_ | refine AW.cond_dec rfl (fun hc => ?_) (fun hc => ?_)) | (with_reducible refine AW.cond rfl (fun hc => ?_) (fun hc => ?_) <;> try simp only [Bool.not_eq_eq_eq_not, Bool.not_true, Bool.not_false, decide_eq_true_eq, decide_eq_false_iff_not] at hc) | (with_reducible first | refine AW.seq ?_ | refine AW.skip ?_ | refine AW.ret ?_ | refine And.intro ?_ ?_) | (with_reducible intro hg; first | simp only [eq_false hg, rsB] | simp only [eq_true hg, rsB]) | (with_reducible refine retQ_drop ?_; simp only [vRes, packRes, vLoad, vPart, lk, cond, Nat.reduceBEq, get_loc, getD_zero, getD_succ, true_and, List.length_cons, List.length_nil, Nat.reduceAdd, Nat.reduceLT, Nat.reduceLeDiff, List.take_succ_cons, List.take_zero, List.drop_succ_cons, List.drop_zero, vvar_1, vzero_1, vvar_2, vzero_2, vknd_2, vsn_2, vvar_4, vzero_4, vknd_4, vsn_4, vvar_6, vzero_6, vknd_6, vsn_6, vsl_24, vkn_24, vvar_24, vzero_24, vvar_26, vzero_26, vbld_26, vvar_57, vzero_57, vfld_26_0, vfld_26_1]) )
      refine vCall_exBL (hp2 _) (fun x => by rw [hl2]; exact hlen _) (fun x hy0 B3 hB3 => ?_)
      obtain ⟨b, z3, sd3⟩ := x
      simp only at hy0 hB3 ⊢
      have hl3 : B3.length = nB := hB3 ▸ hlen _
      have hBB3 : BaseLt nB B3 := hB3 ▸ hBL _
      have hc1 := rowCnt_bnd T U i (k := a.toNat) (by omega)
      have hc2 := rowCnt_len T U i
      have hdr := rowCnt_draw (T := T) (B := U) (a := a) (b := b) hT hU (by omega) (by omega)
      have hc3 : 0 ≤ ((rowCnt T U i).set a.toNat ((rowCnt T U i).getD a.toNat 0 + 1)).getD b.toNat 0 ∧ ((rowCnt T U i).set a.toNat ((rowCnt T U i).getD a.toNat 0 + 1)).getD b.toNat 0 ≤ 100 := by
        have h1 := rowCnt_bnd T U i (k := b.toNat) (by omega)
        rw [List.getD_eq_getElem?_getD, List.getElem?_set]
        split
        · split
          · simp only [Option.getD_some]; omega
          · simp only [Option.getD_none]; omega
        · rw [← List.getD_eq_getElem?_getD]; omega
      repeat' (first | (with_reducible first | refine AW.sreg envOk fun K hK => ?_ | refine AW.region envOk fun K hK => ?_ | refine vcL_nil ?_) | (with_reducible (first | refine vcL_cons fun K' hK' => ?_); simp only [isC, Bool.false_or, Bool.or_true, vAppend, elems, ↓reduceDIte, List.take_length, Nat.le_refl, List.drop_zero, vGuard, undef, Bool.not_eq_eq_eq_not, dstOk, vcOp, vcF, isPure, putS, vcCall, St.ev, St.put, lk, AVal.ofVal, initS, Nat.reduceLT, true_and, and_true, vBin, vPart, vLoad, vStore, vIdxA, vFldA, vAlloc, vBuild, vBuildSl, vMake, partsA, fillA, decAll, AVal.flat, AVal.cell, cellsOk, setRange, ETy.enc, ETy.dec, ETy.sz, ETy.d, cond, Nat.reduceBEq, Nat.reduceAdd, Int.toNat_natCast, List.length_set, List.length_append, List.length_replicate, List.length_take, Nat.reduceSub, Nat.reduceEqDiff, get_loc, setBox_loc, next_eq, List.length_cons, List.length_nil, List.map_cons, List.map_nil, List.append_nil, List.nil_append, List.cons_append, List.set_cons_zero, List.set_cons_succ, getD_zero, getD_succ, List.getElem?_cons_succ, List.getElem?_cons_zero, List.take_succ_cons, List.take_zero, List.drop_succ_cons, List.all_cons, List.all_nil, Bool.and_true, Bool.true_and, Option.bind_some, Option.map_some, Option.map_none, decide_eq_true_eq, decide_eq_false_iff_not, ne_eq, Bool.not_eq_true, Bool.not_eq_false, Decidable.not_not, not_true_eq_false, not_false_eq_true, forall_const, false_implies, Bool.true_eq_false, Bool.false_eq_true, reduceCtorEq, decide_true, decide_false, Bool.not_true, Bool.not_false, if_true, if_false, Nat.zero_add, Nat.lt_irrefl, Value.oneCell', gt_iff_lt, Nat.reduceLeDiff, Nat.lt_add_one, vSealSl, vvar_1, vzero_1, vvar_2, vzero_2, vknd_2, vsn_2, vvar_4, vzero_4, vknd_4, vsn_4, vvar_6, vzero_6, vknd_6, vsn_6, vsl_24, vkn_24, vvar_24, vzero_24, vvar_26, vzero_26, vbld_26, vvar_57, vzero_57, vfld_26_0, vfld_26_1, hl3, getN hl3, setN hl3, hc2, htk, huk, hT, hU]; try simp (disch := omega) only [wrap64]) | (with_reducible refine hK' _ ?_; clear hK' K') | (with_reducible refine hK _ ?_; clear hK K) | (with_reducible first | refine And.intro (And.intro rfl rfl) ?_ | refine And.intro (by omega) ?_) | (with_reducible refine And.intro (fun hg => ?_) (fun hg => ?_) <;> first | simp only [eq_false hg, rsB] | simp only [eq_true hg, rsB] | simp only [hg, rsB]) | (with_reducible first | refine And.intro rfl (And.intro rfl rfl) | refine thenQ_n ?_ | refine thenQ_exit ?_ | refine thenQ_ret ?_ | refine midQ_ret ?_ | refine midQ_exit ?_ | refine blockQ_same ?_ | refine blockQ_ne (by decide) ?_ | refine blockQ_ret ?_ | refine blockQ_n ?_ | refine AW.exit ?_ | refine AW.block ?_ | refine AW.cond_t rfl ?_ | refine AW.cond_f rfl ?_ | refine AW.cond_dec rfl (fun hc => ?_) (fun hc => ?_)) | (with_reducible refine AW.cond rfl (fun hc => ?_) (fun hc => ?_) <;> try simp only [Bool.not_eq_eq_eq_not, Bool.not_true, Bool.not_false, decide_eq_true_eq, decide_eq_false_iff_not] at hc) | (with_reducible first | refine AW.seq ?_ | refine AW.skip ?_ | refine AW.ret ?_ | refine And.intro ?_ ?_) | (with_reducible intro hg; first | simp only [eq_false hg, rsB] | simp only [eq_true hg, rsB]) | (with_reducible refine retQ_drop ?_; simp only [vRes, packRes, vLoad, vPart, lk, cond, Nat.reduceBEq, get_loc, getD_zero, getD_succ, true_and, List.length_cons, List.length_nil, Nat.reduceAdd, Nat.reduceLT, Nat.reduceLeDiff, List.take_succ_cons, List.take_zero, List.drop_succ_cons, List.drop_zero, vvar_1, vzero_1, vvar_2, vzero_2, vknd_2, vsn_2, vvar_4, vzero_4, vknd_4, vsn_4, vvar_6, vzero_6, vknd_6, vsn_6, vsl_24, vkn_24, vvar_24, vzero_24, vvar_26, vzero_26, vbld_26, vvar_57, vzero_57, vfld_26_0, vfld_26_1]) )
      all_goals first
        | (exfalso; omega)
        | skip
      refine ⟨(i + 1, T ++ [a], U ++ [b], z3, sd3), ⟨⟨by simp only; omega, by simp [hT], by simp [hU]⟩, ⟨dT.snoc (by omega), dU.snoc (by omega)⟩, by simp only; omega, by simp only; omega⟩, by simp only; omega, ?_⟩
      rw [if_neg (by simp)]
      try unfold ds1
      simp only [hB3]
      rw [← hdr]
      exact Weak.sel [0, 1, 2, 6, 8] hBB3 (by decide) (by (repeat' (first | exact trivial | exact RenB.plRow rfl | exact RenB.dead _ | exact RenB.map _ _ | exact RenB.iter rfl | refine And.intro ?_ ?_ | (refine RenB.plBox ?_; (repeat' (first | exact Pl.v _ | exact Pl.junk | exact Pl.rd rfl _ | exact pl_nil | refine pl_cons ?_ ?_ | refine Pl.agg ?_ | refine Pl.tup ?_ | refine Pl.rp ?_ | refine Pl.fn ?_)); (first | done | fail)) | refine RenB.of ?_ | exact RenV.ptr rfl | exact RenV.sl rfl | exact RenV.mp rfl | exact RenV.it rfl | exact RenV.low (IdsLt.mp (by assumption)) | (refine RenV.pl ?_; (repeat' (first | exact Pl.v _ | exact Pl.junk | exact Pl.rd rfl _ | exact pl_nil | refine pl_cons ?_ ?_ | refine Pl.agg ?_ | refine Pl.tup ?_ | refine Pl.rp ?_ | refine Pl.fn ?_)); (first | done | fail)) | refine RenV.aggL ?_ | refine RenV.fnL ?_ | exact Nat.lt_of_sub_pos (by decide) | (simp; (first | done | fail)))); (first | done | fail)) (by (repeat' (first | exact trivial | exact RenV.ptr rfl | exact RenV.sl rfl | exact RenV.mp rfl | exact RenV.it rfl | exact RenV.low (IdsLt.mp (by assumption)) | exact RenV.low (.v _) | exact RenV.low (IdsLt.ptr (by assumption)) | (refine RenV.pl ?_; (repeat' (first | exact Pl.v _ | exact Pl.junk | exact Pl.rd rfl _ | exact pl_nil | refine pl_cons ?_ ?_ | refine Pl.agg ?_ | refine Pl.tup ?_ | refine Pl.rp ?_ | refine Pl.fn ?_)); (first | done | fail)) | refine RenV.fnL ?_ | refine RenV.aggL ?_ | refine And.intro ?_ ?_)); (first | done | fail)) hl3
    · obtain rfl : i = cols := by omega
      have hUT : U.length = T.length := by omega
      have hC : ∀ x : Int, 0 ≤ x ∧ x ≤ (n : Int) → (rowCnt T U i).getD x.toNat 0 = (((T ++ U).count x : Nat) : Int) := fun x hx => by
        have h := rowCnt_all (T := T) (B := U) hUT (k := x.toNat) (by omega)
        rw [hT] at h
        rw [h, show ((x.toNat : Nat) : Int) = x by omega]
      have hc2 := rowCnt_len T U i
      generalize rowCnt T U i = C at hC hc2
      repeat' (first | (with_reducible first | refine AW.sreg envOk fun K hK => ?_ | refine AW.region envOk fun K hK => ?_ | refine vcL_nil ?_) | (with_reducible (first | refine vcL_cons fun K' hK' => ?_); simp only [isC, Bool.false_or, Bool.or_true, vAppend, elems, ↓reduceDIte, List.take_length, Nat.le_refl, List.drop_zero, vGuard, undef, Bool.not_eq_eq_eq_not, dstOk, vcOp, vcF, isPure, putS, vcCall, St.ev, St.put, lk, AVal.ofVal, initS, Nat.reduceLT, true_and, and_true, vBin, vPart, vLoad, vStore, vIdxA, vFldA, vAlloc, vBuild, vBuildSl, vMake, partsA, fillA, decAll, AVal.flat, AVal.cell, cellsOk, setRange, ETy.enc, ETy.dec, ETy.sz, ETy.d, cond, Nat.reduceBEq, Nat.reduceAdd, Int.toNat_natCast, List.length_set, List.length_append, List.length_replicate, List.length_take, Nat.reduceSub, Nat.reduceEqDiff, get_loc, setBox_loc, next_eq, List.length_cons, List.length_nil, List.map_cons, List.map_nil, List.append_nil, List.nil_append, List.cons_append, List.set_cons_zero, List.set_cons_succ, getD_zero, getD_succ, List.getElem?_cons_succ, List.getElem?_cons_zero, List.take_succ_cons, List.take_zero, List.drop_succ_cons, List.all_cons, List.all_nil, Bool.and_true, Bool.true_and, Option.bind_some, Option.map_some, Option.map_none, decide_eq_true_eq, decide_eq_false_iff_not, ne_eq, Bool.not_eq_true, Bool.not_eq_false, Decidable.not_not, not_true_eq_false, not_false_eq_true, forall_const, false_implies, Bool.true_eq_false, Bool.false_eq_true, reduceCtorEq, decide_true, decide_false, Bool.not_true, Bool.not_false, if_true, if_false, Nat.zero_add, Nat.lt_irrefl, Value.oneCell', gt_iff_lt, Nat.reduceLeDiff, Nat.lt_add_one, vSealSl, vvar_1, vzero_1, vvar_2, vzero_2, vknd_2, vsn_2, vvar_4, vzero_4, vknd_4, vsn_4, vvar_6, vzero_6, vknd_6, vsn_6, vsl_24, vkn_24, vvar_24, vzero_24, vvar_26, vzero_26, vbld_26, vvar_57, vzero_57, vfld_26_0, vfld_26_1, hl, getN hl, setN hl]; try simp (disch := omega) only [wrap64]) | (with_reducible refine hK' _ ?_; clear hK' K') | (with_reducible refine hK _ ?_; clear hK K) | (with_reducible first | refine And.intro (And.intro rfl rfl) ?_ | refine And.intro (by omega) ?_) | (with_reducible refine And.intro (fun hg => ?_) (fun hg => ?_) <;> first | simp only [eq_false hg, rsB] | simp only [eq_true hg, rsB] | simp only [hg, rsB]) | (with_reducible first | refine And.intro rfl (And.intro rfl rfl) | refine thenQ_n ?_ | refine thenQ_exit ?_ | refine thenQ_ret ?_ | refine midQ_ret ?_ | refine midQ_exit ?_ | refine blockQ_same ?_ | refine blockQ_ne (by decide) ?_ | refine blockQ_ret ?_ | refine blockQ_n ?_ | refine AW.exit ?_ | refine AW.block ?_ | refine AW.cond_t rfl ?_ | refine AW.cond_f rfl ?_ | refine AW.cond_dec rfl (fun hc => ?_) (fun hc => ?_)) | (with_reducible refine AW.cond rfl (fun hc => ?_) (fun hc => ?_) <;> try simp only [Bool.not_eq_eq_eq_not, Bool.not_true, Bool.not_false, decide_eq_true_eq, decide_eq_false_iff_not] at hc) | (with_reducible first | refine AW.seq ?_ | refine AW.skip ?_ | refine AW.ret ?_ | refine And.intro ?_ ?_) | (with_reducible intro hg; first | simp only [eq_false hg, rsB] | simp only [eq_true hg, rsB]) | (with_reducible refine retQ_drop ?_; simp only [vRes, packRes, vLoad, vPart, lk, cond, Nat.reduceBEq, get_loc, getD_zero, getD_succ, true_and, List.length_cons, List.length_nil, Nat.reduceAdd, Nat.reduceLT, Nat.reduceLeDiff, List.take_succ_cons, List.take_zero, List.drop_succ_cons, List.drop_zero, vvar_1, vzero_1, vvar_2, vzero_2, vknd_2, vsn_2, vvar_4, vzero_4, vknd_4, vsn_4, vvar_6, vzero_6, vknd_6, vsn_6, vsl_24, vkn_24, vvar_24, vzero_24, vvar_26, vzero_26, vbld_26, vvar_57, vzero_57, vfld_26_0, vfld_26_1]) )
      all_goals first
        | (exfalso; omega)
        | skip
      refine AW.loop (fun k : Nat => ds2 nB i B C (stripTo (T ++ U) T k) (stripTo (T ++ U) U k) k) (fun k => k ≤ i) (fun k => i - k) 0 (Nat.zero_le _) ?_ ?_
      · unfold ds2
        rw [stripTo_zero, stripTo_zero]
        exact (Weak.slots (by repeat' first | exact trivial | exact ⟨rfl, trivial⟩ | refine ⟨rfl, ?_⟩))
      intro k hk
      unfold ds2
      have hlT := stripTo_len (T ++ U) T (i := k) (by omega)
      have hlU := stripTo_len (T ++ U) U (i := k) (by omega)
      by_cases hkn : k < i
      · have gT := stripTo_get (T ++ U) (l := T) (i := k) (by omega)
        have gU := stripTo_get (T ++ U) (l := U) (i := k) (by omega)
        have sT := stripTo_succ (T ++ U) (l := T) (i := k) (by omega)
        have sU := stripTo_succ (T ++ U) (l := U) (i := k) (by omega)
        have rT := dT.at (i := k) (by omega)
        have rU := dU.at (i := k) (by omega)
        have cT := hC _ rT
        have cU := hC _ rU
        by_cases c1 : (T ++ U).count (T.getD k 0) = 1
        · rw [if_pos c1] at sT
          by_cases c2 : (T ++ U).count (U.getD k 0) = 1
          · rw [if_pos c2] at sU
            repeat' (first | (with_reducible first | refine AW.sreg envOk fun K hK => ?_ | refine AW.region envOk fun K hK => ?_ | refine vcL_nil ?_) | (with_reducible (first | refine vcL_cons fun K' hK' => ?_); simp only [isC, Bool.false_or, Bool.or_true, vAppend, elems, ↓reduceDIte, List.take_length, Nat.le_refl, List.drop_zero, vGuard, undef, Bool.not_eq_eq_eq_not, dstOk, vcOp, vcF, isPure, putS, vcCall, St.ev, St.put, lk, AVal.ofVal, initS, Nat.reduceLT, true_and, and_true, vBin, vPart, vLoad, vStore, vIdxA, vFldA, vAlloc, vBuild, vBuildSl, vMake, partsA, fillA, decAll, AVal.flat, AVal.cell, cellsOk, setRange, ETy.enc, ETy.dec, ETy.sz, ETy.d, cond, Nat.reduceBEq, Nat.reduceAdd, Int.toNat_natCast, List.length_set, List.length_append, List.length_replicate, List.length_take, Nat.reduceSub, Nat.reduceEqDiff, get_loc, setBox_loc, next_eq, List.length_cons, List.length_nil, List.map_cons, List.map_nil, List.append_nil, List.nil_append, List.cons_append, List.set_cons_zero, List.set_cons_succ, getD_zero, getD_succ, List.getElem?_cons_succ, List.getElem?_cons_zero, List.take_succ_cons, List.take_zero, List.drop_succ_cons, List.all_cons, List.all_nil, Bool.and_true, Bool.true_and, Option.bind_some, Option.map_some, Option.map_none, decide_eq_true_eq, decide_eq_false_iff_not, ne_eq, Bool.not_eq_true, Bool.not_eq_false, Decidable.not_not, not_true_eq_false, not_false_eq_true, forall_const, false_implies, Bool.true_eq_false, Bool.false_eq_true, reduceCtorEq, decide_true, decide_false, Bool.not_true, Bool.not_false, if_true, if_false, Nat.zero_add, Nat.lt_irrefl, Value.oneCell', gt_iff_lt, Nat.reduceLeDiff, Nat.lt_add_one, vSealSl, vvar_1, vzero_1, vvar_2, vzero_2, vknd_2, vsn_2, vvar_4, vzero_4, vknd_4, vsn_4, vvar_6, vzero_6, vknd_6, vsn_6, vsl_24, vkn_24, vvar_24, vzero_24, vvar_26, vzero_26, vbld_26, vvar_57, vzero_57, vfld_26_0, vfld_26_1, hl, getN hl, setN hl, hlT, hlU, gT, gU, cT, cU, hc2]; try simp (disch := omega) only [wrap64]) | (with_reducible refine hK' _ ?_; clear hK' K') | (with_reducible refine hK _ ?_; clear hK K) | (with_reducible first | refine And.intro (And.intro rfl rfl) ?_ | refine And.intro (by omega) ?_) | (with_reducible refine And.intro (fun hg => ?_) (fun hg => ?_) <;> first | simp only [eq_false hg, rsB] | simp only [eq_true hg, rsB] | simp only [hg, rsB]) | (with_reducible first | refine And.intro rfl (And.intro rfl rfl) | refine thenQ_n ?_ | refine thenQ_exit ?_ | refine thenQ_ret ?_ | refine midQ_ret ?_ | refine midQ_exit ?_ | refine blockQ_same ?_ | refine blockQ_ne (by decide) ?_ | refine blockQ_ret ?_ | refine blockQ_n ?_ | refine AW.exit ?_ | refine AW.block ?_ | refine AW.cond_t rfl ?_ | refine AW.cond_f rfl ?_ | refine AW.cond_dec rfl (fun hc => ?_) (fun hc => ?_)) | (with_reducible refine AW.cond rfl (fun hc => ?_) (fun hc => ?_) <;> try simp only [Bool.not_eq_eq_eq_not, Bool.not_true, Bool.not_false, decide_eq_true_eq, decide_eq_false_iff_not] at hc) | (with_reducible first | refine AW.seq ?_ | refine AW.skip ?_ | refine AW.ret ?_ | refine And.intro ?_ ?_) | (with_reducible intro hg; first | simp only [eq_false hg, rsB] | simp only [eq_true hg, rsB]) | (with_reducible refine retQ_drop ?_; simp only [vRes, packRes, vLoad, vPart, lk, cond, Nat.reduceBEq, get_loc, getD_zero, getD_succ, true_and, List.length_cons, List.length_nil, Nat.reduceAdd, Nat.reduceLT, Nat.reduceLeDiff, List.take_succ_cons, List.take_zero, List.drop_succ_cons, List.drop_zero, vvar_1, vzero_1, vvar_2, vzero_2, vknd_2, vsn_2, vvar_4, vzero_4, vknd_4, vsn_4, vvar_6, vzero_6, vknd_6, vsn_6, vsl_24, vkn_24, vvar_24, vzero_24, vvar_26, vzero_26, vbld_26, vvar_57, vzero_57, vfld_26_0, vfld_26_1]) )
            all_goals first
              | (exfalso; omega)
              | (refine ⟨k + 1, by omega, by omega, ?_⟩; rw [sT, sU]; exact (Weak.slots (by repeat' first | exact trivial | exact ⟨rfl, trivial⟩ | refine ⟨rfl, ?_⟩)))
              | skip
          · rw [if_neg c2] at sU
            repeat' (first | (with_reducible first | refine AW.sreg envOk fun K hK => ?_ | refine AW.region envOk fun K hK => ?_ | refine vcL_nil ?_) | (with_reducible (first | refine vcL_cons fun K' hK' => ?_); simp only [isC, Bool.false_or, Bool.or_true, vAppend, elems, ↓reduceDIte, List.take_length, Nat.le_refl, List.drop_zero, vGuard, undef, Bool.not_eq_eq_eq_not, dstOk, vcOp, vcF, isPure, putS, vcCall, St.ev, St.put, lk, AVal.ofVal, initS, Nat.reduceLT, true_and, and_true, vBin, vPart, vLoad, vStore, vIdxA, vFldA, vAlloc, vBuild, vBuildSl, vMake, partsA, fillA, decAll, AVal.flat, AVal.cell, cellsOk, setRange, ETy.enc, ETy.dec, ETy.sz, ETy.d, cond, Nat.reduceBEq, Nat.reduceAdd, Int.toNat_natCast, List.length_set, List.length_append, List.length_replicate, List.length_take, Nat.reduceSub, Nat.reduceEqDiff, get_loc, setBox_loc, next_eq, List.length_cons, List.length_nil, List.map_cons, List.map_nil, List.append_nil, List.nil_append, List.cons_append, List.set_cons_zero, List.set_cons_succ, getD_zero, getD_succ, List.getElem?_cons_succ, List.getElem?_cons_zero, List.take_succ_cons, List.take_zero, List.drop_succ_cons, List.all_cons, List.all_nil, Bool.and_true, Bool.true_and, Option.bind_some, Option.map_some, Option.map_none, decide_eq_true_eq, decide_eq_false_iff_not, ne_eq, Bool.not_eq_true, Bool.not_eq_false, Decidable.not_not, not_true_eq_false, not_false_eq_true, forall_const, false_implies, Bool.true_eq_false, Bool.false_eq_true, reduceCtorEq, decide_true, decide_false, Bool.not_true, Bool.not_false, if_true, if_false, Nat.zero_add, Nat.lt_irrefl, Value.oneCell', gt_iff_lt, Nat.reduceLeDiff, Nat.lt_add_one, vSealSl, vvar_1, vzero_1, vvar_2, vzero_2, vknd_2, vsn_2, vvar_4, vzero_4, vknd_4, vsn_4, vvar_6, vzero_6, vknd_6, vsn_6, vsl_24, vkn_24, vvar_24, vzero_24, vvar_26, vzero_26, vbld_26, vvar_57, vzero_57, vfld_26_0, vfld_26_1, hl, getN hl, setN hl, hlT, hlU, gT, gU, cT, cU, hc2]; try simp (disch := omega) only [wrap64]) | (with_reducible refine hK' _ ?_; clear hK' K') | (with_reducible refine hK _ ?_; clear hK K) | (with_reducible first | refine And.intro (And.intro rfl rfl) ?_ | refine And.intro (by omega) ?_) | (with_reducible refine And.intro (fun hg => ?_) (fun hg => ?_) <;> first | simp only [eq_false hg, rsB] | simp only [eq_true hg, rsB] | simp only [hg, rsB]) | (with_reducible first | refine And.intro rfl (And.intro rfl rfl) | refine thenQ_n ?_ | refine thenQ_exit ?_ | refine thenQ_ret ?_ | refine midQ_ret ?_ | refine midQ_exit ?_ | refine blockQ_same ?_ | refine blockQ_ne (by decide) ?_ | refine blockQ_ret ?_ | refine blockQ_n ?_ | refine AW.exit ?_ | refine AW.block ?_ | refine AW.cond_t rfl ?_ | refine AW.cond_f rfl ?_ | refine AW.cond_dec rfl (fun hc => ?_) (fun hc => ?_)) | (with_reducible refine AW.cond rfl (fun hc => ?_) (fun hc => ?_) <;> try simp only [Bool.not_eq_eq_eq_not, Bool.not_true, Bool.not_false, decide_eq_true_eq, decide_eq_false_iff_not] at hc) | (with_reducible first | refine AW.seq ?_ | refine AW.skip ?_ | refine AW.ret ?_ | refine And.intro ?_ ?_) | (with_reducible intro hg; first | simp only [eq_false hg, rsB] | simp only [eq_true hg, rsB]) | (with_reducible refine retQ_drop ?_; simp only [vRes, packRes, vLoad, vPart, lk, cond, Nat.reduceBEq, get_loc, getD_zero, getD_succ, true_and, List.length_cons, List.length_nil, Nat.reduceAdd, Nat.reduceLT, Nat.reduceLeDiff, List.take_succ_cons, List.take_zero, List.drop_succ_cons, List.drop_zero, vvar_1, vzero_1, vvar_2, vzero_2, vknd_2, vsn_2, vvar_4, vzero_4, vknd_4, vsn_4, vvar_6, vzero_6, vknd_6, vsn_6, vsl_24, vkn_24, vvar_24, vzero_24, vvar_26, vzero_26, vbld_26, vvar_57, vzero_57, vfld_26_0, vfld_26_1]) )
            all_goals first
              | (exfalso; omega)
              | (refine ⟨k + 1, by omega, by omega, ?_⟩; rw [sT, sU]; exact (Weak.slots (by repeat' first | exact trivial | exact ⟨rfl, trivial⟩ | refine ⟨rfl, ?_⟩)))
              | skip
        · rw [if_neg c1] at sT
          by_cases c2 : (T ++ U).count (U.getD k 0) = 1
          · rw [if_pos c2] at sU
            repeat' (first | (with_reducible first | refine AW.sreg envOk fun K hK => ?_ | refine AW.region envOk fun K hK => ?_ | refine vcL_nil ?_) | (with_reducible (first | refine vcL_cons fun K' hK' => ?_); simp only [isC, Bool.false_or, Bool.or_true, vAppend, elems, ↓reduceDIte, List.take_length, Nat.le_refl, List.drop_zero, vGuard, undef, Bool.not_eq_eq_eq_not, dstOk, vcOp, vcF, isPure, putS, vcCall, St.ev, St.put, lk, AVal.ofVal, initS, Nat.reduceLT, true_and, and_true, vBin, vPart, vLoad, vStore, vIdxA, vFldA, vAlloc, vBuild, vBuildSl, vMake, partsA, fillA, decAll, AVal.flat, AVal.cell, cellsOk, setRange, ETy.enc, ETy.dec, ETy.sz, ETy.d, cond, Nat.reduceBEq, Nat.reduceAdd, Int.toNat_natCast, List.length_set, List.length_append, List.length_replicate, List.length_take, Nat.reduceSub, Nat.reduceEqDiff, get_loc, setBox_loc, next_eq, List.length_cons, List.length_nil, List.map_cons, List.map_nil, List.append_nil, List.nil_append, List.cons_append, List.set_cons_zero, List.set_cons_succ, getD_zero, getD_succ, List.getElem?_cons_succ, List.getElem?_cons_zero, List.take_succ_cons, List.take_zero, List.drop_succ_cons, List.all_cons, List.all_nil, Bool.and_true, Bool.true_and, Option.bind_some, Option.map_some, Option.map_none, decide_eq_true_eq, decide_eq_false_iff_not, ne_eq, Bool.not_eq_true, Bool.not_eq_false, Decidable.not_not, not_true_eq_false, not_false_eq_true, forall_const, false_implies, Bool.true_eq_false, Bool.false_eq_true, reduceCtorEq, decide_true, decide_false, Bool.not_true, Bool.not_false, if_true, if_false, Nat.zero_add, Nat.lt_irrefl, Value.oneCell', gt_iff_lt, Nat.reduceLeDiff, Nat.lt_add_one, vSealSl, vvar_1, vzero_1, vvar_2, vzero_2, vknd_2, vsn_2, vvar_4, vzero_4, vknd_4, vsn_4, vvar_6, vzero_6, vknd_6, vsn_6, vsl_24, vkn_24, vvar_24, vzero_24, vvar_26, vzero_26, vbld_26, vvar_57, vzero_57, vfld_26_0, vfld_26_1, hl, getN hl, setN hl, hlT, hlU, gT, gU, cT, cU, hc2]; try simp (disch := omega) only [wrap64]) | (with_reducible refine hK' _ ?_; clear hK' K') | (with_reducible refine hK _ ?_; clear hK K) | (with_reducible first | refine And.intro (And.intro rfl rfl) ?_ | refine And.intro (by omega) ?_) | (with_reducible refine And.intro (fun hg => ?_) (fun hg => ?_) <;> first | simp only [eq_false hg, rsB] | simp only [eq_true hg, rsB] | simp only [hg, rsB]) | (with_reducible first | refine And.intro rfl (And.intro rfl rfl) | refine thenQ_n ?_ | refine thenQ_exit ?_ | refine thenQ_ret ?_ | refine midQ_ret ?_ | refine midQ_exit ?_ | refine blockQ_same ?_ | refine blockQ_ne (by decide) ?_ | refine blockQ_ret ?_ | refine blockQ_n ?_ | refine AW.exit ?_ | refine AW.block ?_ | refine AW.cond_t rfl ?_ | refine AW.cond_f rfl ?_ | refine AW.cond_dec rfl (fun hc => ?_) (fun hc => ?_)) | (with_reducible refine AW.cond rfl (fun hc => ?_) (fun hc => ?_) <;> try simp only [Bool.not_eq_eq_eq_not, Bool.not_true, Bool.not_false, decide_eq_true_eq, decide_eq_false_iff_not] at hc) | (with_reducible first | refine AW.seq ?_ | refine AW.skip ?_ | refine AW.ret ?_ | refine And.intro ?_ ?_) | (with_reducible intro hg; first | simp only [eq_false hg, rsB] | simp only [eq_true hg, rsB]) | (with_reducible refine retQ_drop ?_; simp only [vRes, packRes, vLoad, vPart, lk, cond, Nat.reduceBEq, get_loc, getD_zero, getD_succ, true_and, List.length_cons, List.length_nil, Nat.reduceAdd, Nat.reduceLT, Nat.reduceLeDiff, List.take_succ_cons, List.take_zero, List.drop_succ_cons, List.drop_zero, vvar_1, vzero_1, vvar_2, vzero_2, vknd_2, vsn_2, vvar_4, vzero_4, vknd_4, vsn_4, vvar_6, vzero_6, vknd_6, vsn_6, vsl_24, vkn_24, vvar_24, vzero_24, vvar_26, vzero_26, vbld_26, vvar_57, vzero_57, vfld_26_0, vfld_26_1]) )
            all_goals first
              | (exfalso; omega)
              | (refine ⟨k + 1, by omega, by omega, ?_⟩; rw [sT, sU]; exact (Weak.slots (by repeat' first | exact trivial | exact ⟨rfl, trivial⟩ | refine ⟨rfl, ?_⟩)))
              | skip
          · rw [if_neg c2] at sU
            repeat' (first | (with_reducible first | refine AW.sreg envOk fun K hK => ?_ | refine AW.region envOk fun K hK => ?_ | refine vcL_nil ?_) | (with_reducible (first | refine vcL_cons fun K' hK' => ?_); simp only [isC, Bool.false_or, Bool.or_true, vAppend, elems, ↓reduceDIte, List.take_length, Nat.le_refl, List.drop_zero, vGuard, undef, Bool.not_eq_eq_eq_not, dstOk, vcOp, vcF, isPure, putS, vcCall, St.ev, St.put, lk, AVal.ofVal, initS, Nat.reduceLT, true_and, and_true, vBin, vPart, vLoad, vStore, vIdxA, vFldA, vAlloc, vBuild, vBuildSl, vMake, partsA, fillA, decAll, AVal.flat, AVal.cell, cellsOk, setRange, ETy.enc, ETy.dec, ETy.sz, ETy.d, cond, Nat.reduceBEq, Nat.reduceAdd, Int.toNat_natCast, List.length_set, List.length_append, List.length_replicate, List.length_take, Nat.reduceSub, Nat.reduceEqDiff, get_loc, setBox_loc, next_eq, List.length_cons, List.length_nil, List.map_cons, List.map_nil, List.append_nil, List.nil_append, List.cons_append, List.set_cons_zero, List.set_cons_succ, getD_zero, getD_succ, List.getElem?_cons_succ, List.getElem?_cons_zero, List.take_succ_cons, List.take_zero, List.drop_succ_cons, List.all_cons, List.all_nil, Bool.and_true, Bool.true_and, Option.bind_some, Option.map_some, Option.map_none, decide_eq_true_eq, decide_eq_false_iff_not, ne_eq, Bool.not_eq_true, Bool.not_eq_false, Decidable.not_not, not_true_eq_false, not_false_eq_true, forall_const, false_implies, Bool.true_eq_false, Bool.false_eq_true, reduceCtorEq, decide_true, decide_false, Bool.not_true, Bool.not_false, if_true, if_false, Nat.zero_add, Nat.lt_irrefl, Value.oneCell', gt_iff_lt, Nat.reduceLeDiff, Nat.lt_add_one, vSealSl, vvar_1, vzero_1, vvar_2, vzero_2, vknd_2, vsn_2, vvar_4, vzero_4, vknd_4, vsn_4, vvar_6, vzero_6, vknd_6, vsn_6, vsl_24, vkn_24, vvar_24, vzero_24, vvar_26, vzero_26, vbld_26, vvar_57, vzero_57, vfld_26_0, vfld_26_1, hl, getN hl, setN hl, hlT, hlU, gT, gU, cT, cU, hc2]; try simp (disch := omega) only [wrap64]) | (with_reducible refine hK' _ ?_; clear hK' K') | (with_reducible refine hK _ ?_; clear hK K) | (with_reducible first | refine And.intro (And.intro rfl rfl) ?_ | refine And.intro (by omega) ?_) | (with_reducible refine And.intro (fun hg => ?_) (fun hg => ?_) <;> first | simp only [eq_false hg, rsB] | simp only [eq_true hg, rsB] | simp only [hg, rsB]) | (with_reducible first | refine And.intro rfl (And.intro rfl rfl) | refine thenQ_n ?_ | refine thenQ_exit ?_ | refine thenQ_ret ?_ | refine midQ_ret ?_ | refine midQ_exit ?_ | refine blockQ_same ?_ | refine blockQ_ne (by decide) ?_ | refine blockQ_ret ?_ | refine blockQ_n ?_ | refine AW.exit ?_ | refine AW.block ?_ | refine AW.cond_t rfl ?_ | refine AW.cond_f rfl ?_ | refine AW.cond_dec rfl (fun hc => ?_) (fun hc => ?_)) | (with_reducible refine AW.cond rfl (fun hc => ?_) (fun hc => ?_) <;> try simp only [Bool.not_eq_eq_eq_not, Bool.not_true, Bool.not_false, decide_eq_true_eq, decide_eq_false_iff_not] at hc) | (with_reducible first | refine AW.seq ?_ | refine AW.skip ?_ | refine AW.ret ?_ | refine And.intro ?_ ?_) | (with_reducible intro hg; first | simp only [eq_false hg, rsB] | simp only [eq_true hg, rsB]) | (with_reducible refine retQ_drop ?_; simp only [vRes, packRes, vLoad, vPart, lk, cond, Nat.reduceBEq, get_loc, getD_zero, getD_succ, true_and, List.length_cons, List.length_nil, Nat.reduceAdd, Nat.reduceLT, Nat.reduceLeDiff, List.take_succ_cons, List.take_zero, List.drop_succ_cons, List.drop_zero, vvar_1, vzero_1, vvar_2, vzero_2, vknd_2, vsn_2, vvar_4, vzero_4, vknd_4, vsn_4, vvar_6, vzero_6, vknd_6, vsn_6, vsl_24, vkn_24, vvar_24, vzero_24, vvar_26, vzero_26, vbld_26, vvar_57, vzero_57, vfld_26_0, vfld_26_1]) )
            all_goals first
              | (exfalso; omega)
              | (refine ⟨k + 1, by omega, by omega, ?_⟩; rw [sT, sU]; exact (Weak.slots (by repeat' first | exact trivial | exact ⟨rfl, trivial⟩ | refine ⟨rfl, ?_⟩)))
              | skip
      · obtain rfl : k = i := by omega
        have eT : stripTo (T ++ U) T k = strip (T ++ U) T := by rw [← hT]; exact stripTo_all _ _
        have eU : stripTo (T ++ U) U k = strip (T ++ U) U := by rw [← hU]; exact stripTo_all _ _
        rw [eT] at hlT ⊢
        rw [eU] at hlU ⊢
        have hok := strip_ok (T := T) (B := U) (by omega) (by omega) hUT (fun x hx => by
          rcases List.mem_append.1 hx with hx | hx
          · have := dT x hx; omega
          · have := dU x hx; omega)
        have hcl : (strip (T ++ U) T).length = k := by omega
        generalize strip (T ++ U) T = T2 at hlT hok hcl ⊢
        generalize strip (T ++ U) U = U2 at hlU hok ⊢
        subst hl
        refine AW.weak (st2 := ⟨84, [(1, .v (.int .i64 ((k : Int)))), (6, .ptr 1 (B.length + 0) 0 0), (7, .ptr 1 (B.length + 1) 0 0), (12, .v (.int .i64 ((k : Int))))], B, [.box false [.v (.slice none 0 0), .v (.slice none 0 0)], .box false [.rd (.int .i64) T2, .sl 1 (B.length + 4) 0 k], .dead, .dead, .row false (.int .i64) U2]⟩) ?_ ?_
        · refine Weak.seal 3 (e := .int .i64) (xs := T2) (by simp) rfl rfl ?_ ?_
          · refine ⟨.same _, .box rfl (fun q hq => ?_), .dead _, .dead _, .same _, trivial⟩
            match q, hq with
            | 0, _ => exact SealV.whole rfl hcl.symm
            | 1, _ => exact .same _
          · repeat' (first | exact trivial | exact SealV.same _ | refine And.intro ?_ ?_)
        refine AW.weak (st2 := ⟨84, [(1, .v (.int .i64 ((k : Int)))), (6, .ptr 1 (B.length + 0) 0 0), (7, .ptr 1 (B.length + 1) 0 0), (12, .v (.int .i64 ((k : Int))))], B, [.box false [.v (.slice none 0 0), .v (.slice none 0 0)], .box false [.rd (.int .i64) T2, .rd (.int .i64) U2], .dead, .dead, .dead]⟩) ?_ ?_
        · refine Weak.seal 4 (e := .int .i64) (xs := U2) (by simp) rfl rfl ?_ ?_
          · refine ⟨.same _, .box rfl (fun q hq => ?_), .dead _, .dead _, .dead _, trivial⟩
            match q, hq with
            | 0, _ => exact .same _
            | 1, _ => exact SealV.whole rfl (by omega)
          · repeat' (first | exact trivial | exact SealV.same _ | refine And.intro ?_ ?_)
        repeat' (first | (with_reducible first | refine AW.sreg envOk fun K hK => ?_ | refine AW.region envOk fun K hK => ?_ | refine vcL_nil ?_) | (with_reducible (first | refine vcL_cons fun K' hK' => ?_); simp only [isC, Bool.false_or, Bool.or_true, vAppend, elems, ↓reduceDIte, List.take_length, Nat.le_refl, List.drop_zero, vGuard, undef, Bool.not_eq_eq_eq_not, dstOk, vcOp, vcF, isPure, putS, vcCall, St.ev, St.put, lk, AVal.ofVal, initS, Nat.reduceLT, true_and, and_true, vBin, vPart, vLoad, vStore, vIdxA, vFldA, vAlloc, vBuild, vBuildSl, vMake, partsA, fillA, decAll, AVal.flat, AVal.cell, cellsOk, setRange, ETy.enc, ETy.dec, ETy.sz, ETy.d, cond, Nat.reduceBEq, Nat.reduceAdd, Int.toNat_natCast, List.length_set, List.length_append, List.length_replicate, List.length_take, Nat.reduceSub, Nat.reduceEqDiff, get_loc, setBox_loc, next_eq, List.length_cons, List.length_nil, List.map_cons, List.map_nil, List.append_nil, List.nil_append, List.cons_append, List.set_cons_zero, List.set_cons_succ, getD_zero, getD_succ, List.getElem?_cons_succ, List.getElem?_cons_zero, List.take_succ_cons, List.take_zero, List.drop_succ_cons, List.all_cons, List.all_nil, Bool.and_true, Bool.true_and, Option.bind_some, Option.map_some, Option.map_none, decide_eq_true_eq, decide_eq_false_iff_not, ne_eq, Bool.not_eq_true, Bool.not_eq_false, Decidable.not_not, not_true_eq_false, not_false_eq_true, forall_const, false_implies, Bool.true_eq_false, Bool.false_eq_true, reduceCtorEq, decide_true, decide_false, Bool.not_true, Bool.not_false, if_true, if_false, Nat.zero_add, Nat.lt_irrefl, Value.oneCell', gt_iff_lt, Nat.reduceLeDiff, Nat.lt_add_one, vSealSl, vvar_1, vzero_1, vvar_2, vzero_2, vknd_2, vsn_2, vvar_4, vzero_4, vknd_4, vsn_4, vvar_6, vzero_6, vknd_6, vsn_6, vsl_24, vkn_24, vvar_24, vzero_24, vvar_26, vzero_26, vbld_26, vvar_57, vzero_57, vfld_26_0, vfld_26_1]; try simp (disch := omega) only [wrap64]) | (with_reducible refine hK' _ ?_; clear hK' K') | (with_reducible refine hK _ ?_; clear hK K) | (with_reducible first | refine And.intro (And.intro rfl rfl) ?_ | refine And.intro (by omega) ?_) | (with_reducible refine And.intro (fun hg => ?_) (fun hg => ?_) <;> first | simp only [eq_false hg, rsB] | simp only [eq_true hg, rsB] | simp only [hg, rsB]) | (with_reducible first | refine And.intro rfl (And.intro rfl rfl) | refine thenQ_n ?_ | refine thenQ_exit ?_ | refine thenQ_ret ?_ | refine midQ_ret ?_ | refine midQ_exit ?_ | refine blockQ_same ?_ | refine blockQ_ne (by decide) ?_ | refine blockQ_ret ?_ | refine blockQ_n ?_ | refine AW.exit ?_ | refine AW.block ?_ | refine AW.cond_t rfl ?_ | refine AW.cond_f rfl ?_ | refine AW.cond_dec rfl (fun hc => ?_) (fun hc => ?_)) | (with_reducible refine AW.cond rfl (fun hc => ?_) (fun hc => ?_) <;> try simp only [Bool.not_eq_eq_eq_not, Bool.not_true, Bool.not_false, decide_eq_true_eq, decide_eq_false_iff_not] at hc) | (with_reducible first | refine AW.seq ?_ | refine AW.skip ?_ | refine AW.ret ?_ | refine And.intro ?_ ?_) | (with_reducible intro hg; first | simp only [eq_false hg, rsB] | simp only [eq_true hg, rsB]) | (with_reducible refine retQ_drop ?_; simp only [vRes, packRes, vLoad, vPart, lk, cond, Nat.reduceBEq, get_loc, getD_zero, getD_succ, true_and, List.length_cons, List.length_nil, Nat.reduceAdd, Nat.reduceLT, Nat.reduceLeDiff, List.take_succ_cons, List.take_zero, List.drop_succ_cons, List.drop_zero, vvar_1, vzero_1, vvar_2, vzero_2, vknd_2, vsn_2, vvar_4, vzero_4, vknd_4, vsn_4, vvar_6, vzero_6, vknd_6, vsn_6, vsl_24, vkn_24, vvar_24, vzero_24, vvar_26, vzero_26, vbld_26, vvar_57, vzero_57, vfld_26_0, vfld_26_1]) )
        all_goals first
          | (exfalso; omega)
          | exact ⟨_, _, FinOk.drop hBB (Pl.ids (by (repeat' (first | exact Pl.v _ | exact Pl.junk | exact Pl.rd rfl _ | exact pl_nil | refine pl_cons ?_ ?_ | refine Pl.agg ?_ | refine Pl.tup ?_ | refine Pl.rp ?_ | refine Pl.fn ?_)); (first | done | fail))), ((T2, U2), z1, sd), ⟨hok, hcl⟩, rfl, hB1.symm⟩
          | skip
/-- A drawn channel of at most 8 columns. -/
theorem chan6_ac (cs : List Int) (hx : cs.length ≤ 1000000000) (hu : U8 cs) (H : List ABox) : AC Tryd.prog 6 [.rd (.int .u8) cs] H (fun r H' => ∃ c : Ch, (ChOk c ∧ c.1.length ≤ 8) ∧ r = .agg [.rd (.int .i64) (c).1, .rd (.int .i64) (c).2] ∧ H' = H) := by
  refine AC.enter envOk Tryd.func6 rfl (by decide) Tryd.ntmps6 Tryd.results6 (by simp) fun hB => ?_
  repeat' (first | (with_reducible first | refine AW.sreg envOk fun K hK => ?_ | refine AW.region envOk fun K hK => ?_ | refine vcL_nil ?_) | (with_reducible (first | refine vcL_cons fun K' hK' => ?_); simp only [isC, Bool.false_or, Bool.or_true, ↓reduceDIte, List.take_length, Nat.le_refl, List.drop_zero, vGuard, undef, Bool.not_eq_eq_eq_not, dstOk, vcOp, vcF, isPure, putS, vcCall, St.ev, St.put, lk, AVal.ofVal, initS, Nat.reduceLT, true_and, and_true, vBin, vPart, vLoad, vStore, vAlloc, partsA, fillA, decAll, AVal.flat, AVal.cell, cellsOk, setRange, ETy.enc, ETy.dec, ETy.sz, ETy.d, cond, Nat.reduceBEq, Nat.reduceAdd, Int.toNat_natCast, List.length_set, List.length_append, List.length_replicate, List.length_take, Nat.reduceSub, Nat.reduceEqDiff, get_loc, setBox_loc, next_eq, List.length_cons, List.length_nil, List.map_cons, List.map_nil, List.append_nil, List.nil_append, List.cons_append, List.set_cons_zero, List.set_cons_succ, getD_zero, getD_succ, List.getElem?_cons_succ, List.getElem?_cons_zero, List.take_succ_cons, List.take_zero, List.drop_succ_cons, List.all_cons, List.all_nil, Bool.and_true, Bool.true_and, Option.bind_some, Option.map_some, Option.map_none, decide_eq_true_eq, decide_eq_false_iff_not, ne_eq, Bool.not_eq_true, Bool.not_eq_false, Decidable.not_not, not_true_eq_false, not_false_eq_true, forall_const, false_implies, Bool.true_eq_false, Bool.false_eq_true, reduceCtorEq, decide_true, decide_false, Bool.not_true, Bool.not_false, if_true, if_false, Nat.zero_add, Nat.lt_irrefl, Value.oneCell', gt_iff_lt, Nat.reduceLeDiff, Nat.lt_add_one, vvar_2, vzero_2, vknd_2, vsn_2, vsl_22, vkn_22, vvar_22, vzero_22, vbyt_22, vvar_26, vzero_26, vbld_26, vvar_57, vzero_57]; try simp (disch := omega) only [wrap64]) | (with_reducible refine hK' _ ?_; clear hK' K') | (with_reducible refine hK _ ?_; clear hK K) | ((with_reducible show vCall _ (AVal.fn 25 _) _ _ _); refine vCall_newE (from85_ac _ _) (by simp only [List.length_append, List.length_cons, List.length_nil, Nat.reduceAdd]; rfl) ?_) | ((with_reducible show vCall _ (AVal.fn 26 _) _ _ _); refine vCall_ex (pick86e_ac cs (0, 0) 8 (by omega) hx hu (by simp only; omega) _ 1 rfl _ hB) (fun w hw => ?_)) | (with_reducible first | refine And.intro (And.intro rfl rfl) ?_ | refine And.intro (by omega) ?_) | (with_reducible refine And.intro (fun hg => ?_) (fun hg => ?_) <;> first | simp only [eq_false hg, rsB] | simp only [eq_true hg, rsB] | simp only [hg, rsB]) | (with_reducible first | refine And.intro rfl (And.intro rfl rfl) | refine thenQ_n ?_ | refine thenQ_exit ?_ | refine thenQ_ret ?_ | refine midQ_ret ?_ | refine midQ_exit ?_ | refine blockQ_same ?_ | refine blockQ_ne (by decide) ?_ | refine blockQ_ret ?_ | refine blockQ_n ?_ | refine AW.exit ?_ | refine AW.block ?_ | refine AW.cond_t rfl ?_ | refine AW.cond_f rfl ?_ | refine AW.cond_dec rfl (fun hc => ?_) (fun hc => ?_)) | (with_reducible refine AW.cond rfl (fun hc => ?_) (fun hc => ?_) <;> try simp only [Bool.not_eq_eq_eq_not, Bool.not_true, Bool.not_false, decide_eq_true_eq, decide_eq_false_iff_not] at hc) | (with_reducible first | refine AW.seq ?_ | refine AW.skip ?_ | refine AW.ret ?_ | refine And.intro ?_ ?_) | (with_reducible intro hg; first | simp only [eq_false hg, rsB] | simp only [eq_true hg, rsB]) | (with_reducible refine retQ_drop ?_; simp only [vRes, packRes, vLoad, vPart, lk, cond, Nat.reduceBEq, get_loc, getD_zero, getD_succ, true_and, List.length_cons, List.length_nil, Nat.reduceAdd, Nat.reduceLT, Nat.reduceLeDiff, List.take_succ_cons, List.take_zero, List.drop_succ_cons, List.drop_zero, vvar_2, vzero_2, vknd_2, vsn_2, vsl_22, vkn_22, vvar_22, vzero_22, vbyt_22, vvar_26, vzero_26, vbld_26, vvar_57, vzero_57]) )
  obtain ⟨w0, z1, sd1⟩ := w
  simp only at hw
  obtain ⟨w1, rfl⟩ := Int.eq_ofNat_of_zero_le hw.1.1
  repeat' (first | (with_reducible first | refine AW.sreg envOk fun K hK => ?_ | refine AW.region envOk fun K hK => ?_ | refine vcL_nil ?_) | (with_reducible (first | refine vcL_cons fun K' hK' => ?_); simp only [isC, Bool.false_or, Bool.or_true, ↓reduceDIte, List.take_length, Nat.le_refl, List.drop_zero, vGuard, undef, Bool.not_eq_eq_eq_not, dstOk, vcOp, vcF, isPure, putS, vcCall, St.ev, St.put, lk, AVal.ofVal, initS, Nat.reduceLT, true_and, and_true, vBin, vPart, vLoad, vStore, vAlloc, partsA, fillA, decAll, AVal.flat, AVal.cell, cellsOk, setRange, ETy.enc, ETy.dec, ETy.sz, ETy.d, cond, Nat.reduceBEq, Nat.reduceAdd, Int.toNat_natCast, List.length_set, List.length_append, List.length_replicate, List.length_take, Nat.reduceSub, Nat.reduceEqDiff, get_loc, setBox_loc, next_eq, List.length_cons, List.length_nil, List.map_cons, List.map_nil, List.append_nil, List.nil_append, List.cons_append, List.set_cons_zero, List.set_cons_succ, getD_zero, getD_succ, List.getElem?_cons_succ, List.getElem?_cons_zero, List.take_succ_cons, List.take_zero, List.drop_succ_cons, List.all_cons, List.all_nil, Bool.and_true, Bool.true_and, Option.bind_some, Option.map_some, Option.map_none, decide_eq_true_eq, decide_eq_false_iff_not, ne_eq, Bool.not_eq_true, Bool.not_eq_false, Decidable.not_not, not_true_eq_false, not_false_eq_true, forall_const, false_implies, Bool.true_eq_false, Bool.false_eq_true, reduceCtorEq, decide_true, decide_false, Bool.not_true, Bool.not_false, if_true, if_false, Nat.zero_add, Nat.lt_irrefl, Value.oneCell', gt_iff_lt, Nat.reduceLeDiff, Nat.lt_add_one, vvar_2, vzero_2, vknd_2, vsn_2, vsl_22, vkn_22, vvar_22, vzero_22, vbyt_22, vvar_26, vzero_26, vbld_26, vvar_57, vzero_57]; try simp (disch := omega) only [wrap64]) | (with_reducible refine hK' _ ?_; clear hK' K') | (with_reducible refine hK _ ?_; clear hK K) | ((with_reducible show vCall _ (AVal.fn 26 _) _ _ _); refine vCall_ex (pick86e_ac cs (z1, sd1) 5 (by omega) hx hu (by simp only; omega) _ 1 rfl _ hB) (fun v hv => ?_)) | (with_reducible first | refine And.intro (And.intro rfl rfl) ?_ | refine And.intro (by omega) ?_) | (with_reducible refine And.intro (fun hg => ?_) (fun hg => ?_) <;> first | simp only [eq_false hg, rsB] | simp only [eq_true hg, rsB] | simp only [hg, rsB]) | (with_reducible first | refine And.intro rfl (And.intro rfl rfl) | refine thenQ_n ?_ | refine thenQ_exit ?_ | refine thenQ_ret ?_ | refine midQ_ret ?_ | refine midQ_exit ?_ | refine blockQ_same ?_ | refine blockQ_ne (by decide) ?_ | refine blockQ_ret ?_ | refine blockQ_n ?_ | refine AW.exit ?_ | refine AW.block ?_ | refine AW.cond_t rfl ?_ | refine AW.cond_f rfl ?_ | refine AW.cond_dec rfl (fun hc => ?_) (fun hc => ?_)) | (with_reducible refine AW.cond rfl (fun hc => ?_) (fun hc => ?_) <;> try simp only [Bool.not_eq_eq_eq_not, Bool.not_true, Bool.not_false, decide_eq_true_eq, decide_eq_false_iff_not] at hc) | (with_reducible first | refine AW.seq ?_ | refine AW.skip ?_ | refine AW.ret ?_ | refine And.intro ?_ ?_) | (with_reducible intro hg; first | simp only [eq_false hg, rsB] | simp only [eq_true hg, rsB]) | (with_reducible refine retQ_drop ?_; simp only [vRes, packRes, vLoad, vPart, lk, cond, Nat.reduceBEq, get_loc, getD_zero, getD_succ, true_and, List.length_cons, List.length_nil, Nat.reduceAdd, Nat.reduceLT, Nat.reduceLeDiff, List.take_succ_cons, List.take_zero, List.drop_succ_cons, List.drop_zero, vvar_2, vzero_2, vknd_2, vsn_2, vsl_22, vkn_22, vvar_22, vzero_22, vbyt_22, vvar_26, vzero_26, vbld_26, vvar_57, vzero_57]) )
  obtain ⟨v0, z2, sd2⟩ := v
  simp only at hv
  obtain ⟨v1, rfl⟩ := Int.eq_ofNat_of_zero_le hv.1.1
  have hd := draw27_ac cs (z2, sd2) (1 + w1) (1 + v1) (by omega) (by omega) hx hu (by simp only; omega)
  rw [show ((1 + w1 : Nat) : Int) = 1 + (w1 : Int) by omega, show ((1 + v1 : Nat) : Int) = 1 + (v1 : Int) by omega] at hd
  repeat' (first | (with_reducible first | refine AW.sreg envOk fun K hK => ?_ | refine AW.region envOk fun K hK => ?_ | refine vcL_nil ?_) | (with_reducible (first | refine vcL_cons fun K' hK' => ?_); simp only [isC, Bool.false_or, Bool.or_true, ↓reduceDIte, List.take_length, Nat.le_refl, List.drop_zero, vGuard, undef, Bool.not_eq_eq_eq_not, dstOk, vcOp, vcF, isPure, putS, vcCall, St.ev, St.put, lk, AVal.ofVal, initS, Nat.reduceLT, true_and, and_true, vBin, vPart, vLoad, vStore, vAlloc, partsA, fillA, decAll, AVal.flat, AVal.cell, cellsOk, setRange, ETy.enc, ETy.dec, ETy.sz, ETy.d, cond, Nat.reduceBEq, Nat.reduceAdd, Int.toNat_natCast, List.length_set, List.length_append, List.length_replicate, List.length_take, Nat.reduceSub, Nat.reduceEqDiff, get_loc, setBox_loc, next_eq, List.length_cons, List.length_nil, List.map_cons, List.map_nil, List.append_nil, List.nil_append, List.cons_append, List.set_cons_zero, List.set_cons_succ, getD_zero, getD_succ, List.getElem?_cons_succ, List.getElem?_cons_zero, List.take_succ_cons, List.take_zero, List.drop_succ_cons, List.all_cons, List.all_nil, Bool.and_true, Bool.true_and, Option.bind_some, Option.map_some, Option.map_none, decide_eq_true_eq, decide_eq_false_iff_not, ne_eq, Bool.not_eq_true, Bool.not_eq_false, Decidable.not_not, not_true_eq_false, not_false_eq_true, forall_const, false_implies, Bool.true_eq_false, Bool.false_eq_true, reduceCtorEq, decide_true, decide_false, Bool.not_true, Bool.not_false, if_true, if_false, Nat.zero_add, Nat.lt_irrefl, Value.oneCell', gt_iff_lt, Nat.reduceLeDiff, Nat.lt_add_one, vvar_2, vzero_2, vknd_2, vsn_2, vsl_22, vkn_22, vvar_22, vzero_22, vbyt_22, vvar_26, vzero_26, vbld_26, vvar_57, vzero_57]; try simp (disch := omega) only [wrap64]) | (with_reducible refine hK' _ ?_; clear hK' K') | (with_reducible refine hK _ ?_; clear hK K) | ((with_reducible show vCall _ (AVal.fn 27 _) _ _ _); refine vCall_ex (hd _ 1 rfl _ hB) (fun c hc => ?_)) | (with_reducible first | refine And.intro (And.intro rfl rfl) ?_ | refine And.intro (by omega) ?_) | (with_reducible refine And.intro (fun hg => ?_) (fun hg => ?_) <;> first | simp only [eq_false hg, rsB] | simp only [eq_true hg, rsB] | simp only [hg, rsB]) | (with_reducible first | refine And.intro rfl (And.intro rfl rfl) | refine thenQ_n ?_ | refine thenQ_exit ?_ | refine thenQ_ret ?_ | refine midQ_ret ?_ | refine midQ_exit ?_ | refine blockQ_same ?_ | refine blockQ_ne (by decide) ?_ | refine blockQ_ret ?_ | refine blockQ_n ?_ | refine AW.exit ?_ | refine AW.block ?_ | refine AW.cond_t rfl ?_ | refine AW.cond_f rfl ?_ | refine AW.cond_dec rfl (fun hc => ?_) (fun hc => ?_)) | (with_reducible refine AW.cond rfl (fun hc => ?_) (fun hc => ?_) <;> try simp only [Bool.not_eq_eq_eq_not, Bool.not_true, Bool.not_false, decide_eq_true_eq, decide_eq_false_iff_not] at hc) | (with_reducible first | refine AW.seq ?_ | refine AW.skip ?_ | refine AW.ret ?_ | refine And.intro ?_ ?_) | (with_reducible intro hg; first | simp only [eq_false hg, rsB] | simp only [eq_true hg, rsB]) | (with_reducible refine retQ_drop ?_; simp only [vRes, packRes, vLoad, vPart, lk, cond, Nat.reduceBEq, get_loc, getD_zero, getD_succ, true_and, List.length_cons, List.length_nil, Nat.reduceAdd, Nat.reduceLT, Nat.reduceLeDiff, List.take_succ_cons, List.take_zero, List.drop_succ_cons, List.drop_zero, vvar_2, vzero_2, vknd_2, vsn_2, vsl_22, vkn_22, vvar_22, vzero_22, vbyt_22, vvar_26, vzero_26, vbld_26, vvar_57, vzero_57]) )
  obtain ⟨c, z3, sd3⟩ := c
  simp only at hc
  repeat' (first | (with_reducible first | refine AW.sreg envOk fun K hK => ?_ | refine AW.region envOk fun K hK => ?_ | refine vcL_nil ?_) | (with_reducible (first | refine vcL_cons fun K' hK' => ?_); simp only [isC, Bool.false_or, Bool.or_true, ↓reduceDIte, List.take_length, Nat.le_refl, List.drop_zero, vGuard, undef, Bool.not_eq_eq_eq_not, dstOk, vcOp, vcF, isPure, putS, vcCall, St.ev, St.put, lk, AVal.ofVal, initS, Nat.reduceLT, true_and, and_true, vBin, vPart, vLoad, vStore, vAlloc, partsA, fillA, decAll, AVal.flat, AVal.cell, cellsOk, setRange, ETy.enc, ETy.dec, ETy.sz, ETy.d, cond, Nat.reduceBEq, Nat.reduceAdd, Int.toNat_natCast, List.length_set, List.length_append, List.length_replicate, List.length_take, Nat.reduceSub, Nat.reduceEqDiff, get_loc, setBox_loc, next_eq, List.length_cons, List.length_nil, List.map_cons, List.map_nil, List.append_nil, List.nil_append, List.cons_append, List.set_cons_zero, List.set_cons_succ, getD_zero, getD_succ, List.getElem?_cons_succ, List.getElem?_cons_zero, List.take_succ_cons, List.take_zero, List.drop_succ_cons, List.all_cons, List.all_nil, Bool.and_true, Bool.true_and, Option.bind_some, Option.map_some, Option.map_none, decide_eq_true_eq, decide_eq_false_iff_not, ne_eq, Bool.not_eq_true, Bool.not_eq_false, Decidable.not_not, not_true_eq_false, not_false_eq_true, forall_const, false_implies, Bool.true_eq_false, Bool.false_eq_true, reduceCtorEq, decide_true, decide_false, Bool.not_true, Bool.not_false, if_true, if_false, Nat.zero_add, Nat.lt_irrefl, Value.oneCell', gt_iff_lt, Nat.reduceLeDiff, Nat.lt_add_one, vvar_2, vzero_2, vknd_2, vsn_2, vsl_22, vkn_22, vvar_22, vzero_22, vbyt_22, vvar_26, vzero_26, vbld_26, vvar_57, vzero_57]; try simp (disch := omega) only [wrap64]) | (with_reducible refine hK' _ ?_; clear hK' K') | (with_reducible refine hK _ ?_; clear hK K) | (with_reducible first | refine And.intro (And.intro rfl rfl) ?_ | refine And.intro (by omega) ?_) | (with_reducible refine And.intro (fun hg => ?_) (fun hg => ?_) <;> first | simp only [eq_false hg, rsB] | simp only [eq_true hg, rsB] | simp only [hg, rsB]) | (with_reducible first | refine And.intro rfl (And.intro rfl rfl) | refine thenQ_n ?_ | refine thenQ_exit ?_ | refine thenQ_ret ?_ | refine midQ_ret ?_ | refine midQ_exit ?_ | refine blockQ_same ?_ | refine blockQ_ne (by decide) ?_ | refine blockQ_ret ?_ | refine blockQ_n ?_ | refine AW.exit ?_ | refine AW.block ?_ | refine AW.cond_t rfl ?_ | refine AW.cond_f rfl ?_ | refine AW.cond_dec rfl (fun hc => ?_) (fun hc => ?_)) | (with_reducible refine AW.cond rfl (fun hc => ?_) (fun hc => ?_) <;> try simp only [Bool.not_eq_eq_eq_not, Bool.not_true, Bool.not_false, decide_eq_true_eq, decide_eq_false_iff_not] at hc) | (with_reducible first | refine AW.seq ?_ | refine AW.skip ?_ | refine AW.ret ?_ | refine And.intro ?_ ?_) | (with_reducible intro hg; first | simp only [eq_false hg, rsB] | simp only [eq_true hg, rsB]) | (with_reducible refine retQ_drop ?_; simp only [vRes, packRes, vLoad, vPart, lk, cond, Nat.reduceBEq, get_loc, getD_zero, getD_succ, true_and, List.length_cons, List.length_nil, Nat.reduceAdd, Nat.reduceLT, Nat.reduceLeDiff, List.take_succ_cons, List.take_zero, List.drop_succ_cons, List.drop_zero, vvar_2, vzero_2, vknd_2, vsn_2, vsl_22, vkn_22, vvar_22, vzero_22, vbyt_22, vvar_26, vzero_26, vbld_26, vvar_57, vzero_57]) )
  all_goals first
    | exact ⟨_, _, FinOk.drop hB (Pl.ids (by (repeat' (first | exact Pl.v _ | exact Pl.junk | exact Pl.rd rfl _ | exact pl_nil | refine pl_cons ?_ ?_ | refine Pl.agg ?_ | refine Pl.tup ?_ | refine Pl.rp ?_ | refine Pl.fn ?_)); (first | done | fail))), c, ⟨hc.1, by have := hc.2; omega⟩, rfl, rfl⟩
    | skip
end Go.Proofs.YtmkcahfhnehanaaDoor
end
section
set_option linter.unusedSimpArgs false
set_option linter.unusedVariables false
set_option maxHeartbeats 4000000
namespace Go.Eng
/-- What a call hands over of its own, some values together, sealed for good. -/
theorem AC.sealT {P : Program} {f : FuncId} {args : List AVal} {H new : List ABox} {cs cs' : List AVal} (ha : LentL (killAll H ++ new) cs cs') (hX : IdsLt H.length (.tup cs'))
    (h : AC P f args H (fun r H' => r = .tup cs ∧ H' = H ++ new)) : AC P f args H (fun r H' => r = .tup cs' ∧ H' = H) := by
  obtain ⟨ha1, ha2⟩ := ha.spec
  refine ⟨h.1, fun c vs w hv hh => (h.2 c vs w hv hh).mono ?_⟩
  rintro e w' ⟨c', r, v, H', he, rfl, hr, hh2, rfl, rfl⟩
  -- the boxes of the caller, forgotten
  have hk : RelH c' (killAll H ++ new) w' := by
    have key : ∀ (i : Nat) (Z : ABox), (killAll H ++ new)[i]? = some Z → Z.live = true → (H ++ new)[i]? = some Z := fun i Z hi hZ => by
      rcases Nat.lt_or_ge i H.length with h1 | h1
      · rw [List.getElem?_append_left (by rw [killAll_length]; exact h1)] at hi
        rw [killAll_get hi] at hZ; cases hZ
      · rw [List.getElem?_append_right (by rw [killAll_length]; exact h1), killAll_length] at hi
        rw [List.getElem?_append_right h1]; exact hi
    exact ⟨hh2.os, hh2.tape, hh2.output, hh2.sealed, fun i hi => hh2.dom i (by simpa [killAll_length] using hi), fun i Z hi hZ => hh2.box i Z (key i Z hi hZ) hZ,
      fun i i' l l' Z Z' hi hZ hi' hZ' => hh2.inj i i' l l' Z Z' (key i Z hi hZ) hZ (key i' Z' hi' hZ') hZ'⟩
  let isK : Nat → Prop := fun b => (∃ k Z l, (killAll H ++ new)[k]? = some Z ∧ Z.live = true ∧ c'.loc k = some l ∧ l.blk = b) ∧ c'.sealed b = none
  have decK : ∀ b, Decidable (isK b) := fun b => Classical.propDecidable _
  let c1 : Ctx := { c' with sealed := fun b => @ite _ (isK b) (decK b) (w'.heap[b]?) (c'.sealed b) }
  have sK : ∀ b, isK b → c1.sealed b = w'.heap[b]? := fun b hb => if_pos hb
  have sN : ∀ b, ¬ isK b → c1.sealed b = c'.sealed b := fun b hb => if_neg hb
  have he1 : Ext c' c1 := ⟨⟨rfl, rfl, rfl, fun b o ho => by
    by_cases hb : isK b
    · rw [hb.2] at ho; cases ho
    · rw [sN b hb]; exact ho⟩, fun _ _ h => h⟩
  have hs : ∀ k Z l, (killAll H ++ new)[k]? = some Z → Z.live = true → c'.loc k = some l → c1.sealed l.blk = w'.heap[l.blk]? := fun k Z l hk' hZ hl => by
    by_cases hb : isK l.blk
    · exact sK _ hb
    · rw [sN _ hb]
      cases hc : c'.sealed l.blk with
      | none => exact absurd ⟨⟨k, Z, l, hk', hZ, hl, rfl⟩, hc⟩ hb
      | some o => exact (hk.sealed _ _ hc).symm
  have hv1 : RelV c1 (.tup cs') v := by
    cases hr with
    | tup h1 h2 => exact .tup (ha1.trans h1) (fun i hi => lent_rel hk he1 hs (ha2 i (by omega)) (h2 i (by omega)))
  let c2 : Ctx := { c1 with loc := fun k => if k < H.length then c'.loc k else none }
  have hx12 : ExtB H.length c1 c2 := ⟨⟨rfl, rfl, rfl, fun _ _ h => h⟩, fun k l hk' hl => by
    show (if k < H.length then c'.loc k else none) = some l
    rw [if_pos hk']; exact hl⟩
  have he2 : Ext c c2 := ⟨⟨he.os, he.tape, he.output, fun b o ho => he1.sealed b o (he.sealed b o ho)⟩, fun k l hl => by
    show (if k < H.length then c'.loc k else none) = some l
    rw [if_pos (hh.lt hl)]; exact he.loc k l hl⟩
  have low : ∀ k l, c2.loc k = some l → k < H.length ∧ c'.loc k = some l := fun k l hl => by
    have hl' : (if k < H.length then c'.loc k else none) = some l := hl
    by_cases h1 : k < H.length
    · rw [if_pos h1] at hl'; exact ⟨h1, hl'⟩
    · rw [if_neg h1] at hl'; cases hl'
  have hold : ∀ (k : Nat) (Z : ABox), H[k]? = some Z → (H ++ new)[k]? = some Z := fun k Z h1 => by
    rw [List.getElem?_append_left (List.getElem?_eq_some_iff.1 h1).1]; exact h1
  have hnew : ∀ (k : Nat) (Z : ABox), (killAll H ++ new)[k]? = some Z → Z.live = true → H.length ≤ k ∧ (H ++ new)[k]? = some Z := fun k Z h1 hZ => by
    rcases Nat.lt_or_ge k H.length with h2 | h2
    · rw [List.getElem?_append_left (by rw [killAll_length]; exact h2)] at h1
      rw [killAll_get h1] at hZ; cases hZ
    · rw [List.getElem?_append_right (by rw [killAll_length]; exact h2), killAll_length] at h1
      exact ⟨h2, by rw [List.getElem?_append_right h2]; exact h1⟩
  refine ⟨c2, _, v, H, he2, rfl, hv1.extB hx12 hX, ⟨hh2.os, hh2.tape, hh2.output, fun b o ho => ?_, fun k hk' => ?_, fun k Z hk' hZ => ?_, ?_⟩, rfl, rfl⟩
  · by_cases hb : isK b
    · have : c1.sealed b = some o := ho
      rw [sK b hb] at this; exact this
    · have : c1.sealed b = some o := ho
      rw [sN b hb] at this; exact hh2.sealed b o this
  · show (if k < H.length then c'.loc k else none) = none
    rw [if_neg (by omega)]
  · obtain ⟨l, hl, hB⟩ := hh2.box k Z (hold k Z hk') hZ
    have hlt := (List.getElem?_eq_some_iff.1 hk').1
    have hnk : ¬ isK l.blk := fun hb => by
      obtain ⟨⟨k2, Z2, l2, h1, h2, h3, h4⟩, _⟩ := hb
      obtain ⟨g1, g2⟩ := hnew k2 Z2 h1 h2
      have := hh2.inj k2 k l2 l Z2 Z g2 h2 (hold k Z hk') hZ h3 hl h4
      omega
    have hlt' : BoxLt H.length Z := by
      have := hh.baseLt k hlt
      rwa [List.getD, hk'] at this
    refine ⟨l, ?_, ?_⟩
    · show (if k < H.length then c'.loc k else none) = some l
      rw [if_pos hlt]; exact hl
    · exact hB.carryB ((he1.toB _).trans hx12) hlt' (fun _ => sN _ hnk)
  · intro k k' l l' Z Z' h1 hZ h1' hZ' hl hl' hb
    exact hh2.inj k k' l l' Z Z' (hold k Z h1) hZ (hold k' Z' h1') hZ' (low k l hl).2 (low k' l' hl').2 hb
end Go.Eng
end
