/- Texts of this seat that the law stands on, put together. No conditions. -/
import Derived.Test.YtmkcahfhnehanaaDoorProg
import Derived.KernelRfl
import Derived.Test.YtmkcahfhnehanaaDoorWl7
section
namespace Go.Proofs.YtmkcahfhnehanaaDoor
open Go.Eng
def eSl : TypeId → Option ETy
  | 22 => some (.int .u8)
  | 24 => some (.int .i64)
  | 41 => some (.sli .i64)
  | 48 => some (.pt)
  | 81 => some (.str)
  | 154 => some (.int .i64)
  | _ => none
def eVar : TypeId → Option (Bool × Nat)
  | 1 => some (false, 1)
  | 2 => some (false, 1)
  | 3 => some (false, 1)
  | 4 => some (false, 1)
  | 5 => some (false, 1)
  | 6 => some (false, 1)
  | 7 => some (true, 4)
  | 8 => some (true, 4)
  | 9 => some (false, 1)
  | 10 => some (false, 1)
  | 11 => some (false, 1)
  | 12 => some (false, 1)
  | 13 => some (true, 2)
  | 14 => some (true, 2)
  | 15 => some (false, 1)
  | 16 => some (false, 1)
  | 17 => some (false, 1)
  | 18 => some (true, 1)
  | 19 => some (true, 1)
  | 21 => some (false, 1)
  | 22 => some (false, 1)
  | 23 => some (false, 1)
  | 24 => some (false, 1)
  | 25 => some (true, 2)
  | 26 => some (true, 2)
  | 27 => some (false, 1)
  | 29 => some (false, 1)
  | 31 => some (false, 1)
  | 33 => some (false, 1)
  | 35 => some (false, 1)
  | 36 => some (false, 1)
  | 37 => some (false, 1)
  | 39 => some (false, 1)
  | 40 => some (false, 1)
  | 41 => some (false, 1)
  | 42 => some (true, 1)
  | 43 => some (true, 1)
  | 44 => some (false, 1)
  | 45 => some (true, 2)
  | 46 => some (true, 2)
  | 47 => some (false, 1)
  | 48 => some (false, 1)
  | 50 => some (false, 1)
  | 51 => some (false, 1)
  | 52 => some (false, 1)
  | 53 => some (false, 1)
  | 55 => some (false, 1)
  | 56 => some (false, 1)
  | 57 => some (false, 1)
  | 58 => some (false, 1)
  | 59 => some (false, 1)
  | 60 => some (false, 1)
  | 61 => some (false, 1)
  | 62 => some (false, 1)
  | 64 => some (false, 1)
  | 65 => some (false, 1)
  | 66 => some (false, 1)
  | 67 => some (false, 1)
  | 68 => some (false, 1)
  | 69 => some (false, 1)
  | 71 => some (false, 1)
  | 72 => some (false, 1)
  | 73 => some (false, 1)
  | 74 => some (false, 1)
  | 75 => some (false, 1)
  | 76 => some (false, 1)
  | 77 => some (false, 1)
  | 78 => some (false, 1)
  | 79 => some (false, 1)
  | 80 => some (false, 1)
  | 81 => some (false, 1)
  | 82 => some (false, 1)
  | 83 => some (false, 1)
  | 84 => some (false, 1)
  | 85 => some (false, 1)
  | 86 => some (true, 3)
  | 87 => some (true, 3)
  | 88 => some (false, 1)
  | 89 => some (false, 1)
  | 90 => some (false, 1)
  | 91 => some (false, 1)
  | 92 => some (false, 1)
  | 93 => some (false, 1)
  | 94 => some (false, 1)
  | 95 => some (false, 1)
  | 96 => some (false, 1)
  | 97 => some (false, 1)
  | 98 => some (false, 1)
  | 99 => some (true, 2)
  | 100 => some (true, 2)
  | 101 => some (false, 1)
  | 105 => some (false, 1)
  | 106 => some (false, 1)
  | 107 => some (false, 1)
  | 108 => some (false, 1)
  | 109 => some (false, 1)
  | 111 => some (false, 1)
  | 112 => some (false, 1)
  | 113 => some (false, 1)
  | 114 => some (false, 1)
  | 115 => some (false, 1)
  | 116 => some (false, 1)
  | 117 => some (false, 1)
  | 118 => some (false, 1)
  | 119 => some (false, 1)
  | 120 => some (false, 1)
  | 121 => some (false, 1)
  | 122 => some (false, 1)
  | 123 => some (false, 1)
  | 124 => some (false, 1)
  | 126 => some (false, 1)
  | 127 => some (false, 1)
  | 129 => some (false, 1)
  | 131 => some (false, 1)
  | 132 => some (false, 1)
  | 133 => some (false, 1)
  | 135 => some (false, 1)
  | 136 => some (false, 1)
  | 138 => some (false, 1)
  | 139 => some (false, 1)
  | 141 => some (false, 1)
  | 142 => some (false, 1)
  | 143 => some (false, 1)
  | 144 => some (false, 1)
  | 145 => some (false, 1)
  | 146 => some (false, 1)
  | 148 => some (false, 1)
  | 149 => some (false, 1)
  | 150 => some (false, 1)
  | 152 => some (false, 1)
  | 153 => some (false, 1)
  | 154 => some (false, 1)
  | 155 => some (false, 1)
  | 158 => some (false, 1)
  | 159 => some (false, 1)
  | 160 => some (false, 1)
  | 161 => some (false, 1)
  | 162 => some (true, 3)
  | 163 => some (true, 3)
  | 164 => some (false, 1)
  | 165 => some (false, 1)
  | 166 => some (false, 1)
  | 167 => some (false, 1)
  | 168 => some (false, 1)
  | 169 => some (false, 1)
  | 170 => some (false, 1)
  | 172 => some (true, 2)
  | 173 => some (true, 2)
  | 175 => some (false, 1)
  | 176 => some (true, 1)
  | 177 => some (true, 1)
  | 178 => some (false, 1)
  | 180 => some (false, 1)
  | 183 => some (true, 4)
  | 184 => some (true, 4)
  | 188 => some (false, 1)
  | 189 => some (false, 1)
  | 190 => some (false, 1)
  | 191 => some (false, 1)
  | 192 => some (false, 1)
  | 193 => some (false, 1)
  | 194 => some (true, 11)
  | 195 => some (true, 11)
  | _ => none
def eFld : TypeId → Nat → Option Nat
  | 25, 0 => some 0
  | 25, 1 => some 1
  | 26, 0 => some 0
  | 26, 1 => some 1
  | 42, 0 => some 0
  | 43, 0 => some 0
  | 45, 0 => some 0
  | 45, 1 => some 1
  | 46, 0 => some 0
  | 46, 1 => some 1
  | 86, 0 => some 0
  | 86, 1 => some 1
  | 86, 2 => some 2
  | 87, 0 => some 0
  | 87, 1 => some 1
  | 87, 2 => some 2
  | _, _ => none
def eZero : TypeId → Option (List Value)
  | 1 => some [.nilFunc]
  | 2 => some [.int .i64 0]
  | 3 => some [.int .i64 0]
  | 4 => some [.bool false]
  | 5 => some [.int .u8 0]
  | 6 => some [.int .u8 0]
  | 7 => some [.int .i64 0, .int .i64 0, .bool false, .int .u8 0]
  | 8 => some [.int .i64 0, .int .i64 0, .bool false, .int .u8 0]
  | 9 => some [.string ByteArray.empty]
  | 10 => some [.string ByteArray.empty]
  | 11 => some [.string ByteArray.empty]
  | 12 => some [.int .u64 0]
  | 13 => some [.string ByteArray.empty, .int .u64 0]
  | 14 => some [.string ByteArray.empty, .int .u64 0]
  | 15 => some [.pointer none]
  | 16 => some [.pointer none]
  | 17 => some [.pointer none]
  | 18 => some [.pointer none]
  | 19 => some [.pointer none]
  | 21 => some [.int .i32 0]
  | 22 => some [.slice none 0 0]
  | 23 => some [.nilFunc]
  | 24 => some [.slice none 0 0]
  | 25 => some [.slice none 0 0, .slice none 0 0]
  | 26 => some [.slice none 0 0, .slice none 0 0]
  | 27 => some [.nilFunc]
  | 29 => some [.nilFunc]
  | 31 => some [.nilFunc]
  | 33 => some [.nilFunc]
  | 35 => some [.nilFunc]
  | 36 => some [.nilFunc]
  | 37 => some [.nilFunc]
  | 39 => some [.nilFunc]
  | 40 => some [.nilFunc]
  | 41 => some [.slice none 0 0]
  | 42 => some [.slice none 0 0]
  | 43 => some [.slice none 0 0]
  | 44 => some [.nilFunc]
  | 45 => some [.int .i64 0, .int .i64 0]
  | 46 => some [.int .i64 0, .int .i64 0]
  | 47 => some [.nilFunc]
  | 48 => some [.slice none 0 0]
  | 50 => some [.nilFunc]
  | 51 => some [.nilFunc]
  | 52 => some [.nilFunc]
  | 53 => some [.nilFunc]
  | 55 => some [.nilFunc]
  | 56 => some [.nilFunc]
  | 57 => some [.pointer none]
  | 58 => some [.nilFunc]
  | 59 => some [.nilFunc]
  | 60 => some [.nilFunc]
  | 61 => some [.nilFunc]
  | 62 => some [.nilFunc]
  | 64 => some [.nilFunc]
  | 65 => some [.nilFunc]
  | 66 => some [.nilFunc]
  | 67 => some [.map none]
  | 68 => some [.nilFunc]
  | 69 => some [.nilFunc]
  | 71 => some [.nilFunc]
  | 72 => some [.nilFunc]
  | 73 => some [.nilFunc]
  | 74 => some [.pointer none]
  | 75 => some [.nilFunc]
  | 76 => some [.map none]
  | 77 => some [.nilFunc]
  | 78 => some [.nilFunc]
  | 79 => some [.nilFunc]
  | 80 => some [.nilFunc]
  | 81 => some [.slice none 0 0]
  | 82 => some [.nilFunc]
  | 83 => some [.nilFunc]
  | 84 => some [.nilFunc]
  | 85 => some [.int .u64 0]
  | 86 => some [.slice none 0 0, .int .i64 0, .int .u64 0]
  | 87 => some [.slice none 0 0, .int .i64 0, .int .u64 0]
  | 88 => some [.nilFunc]
  | 89 => some [.pointer none]
  | 90 => some [.nilFunc]
  | 91 => some [.nilFunc]
  | 92 => some [.nilFunc]
  | 93 => some [.nilFunc]
  | 94 => some [.nilFunc]
  | 95 => some [.nilFunc]
  | 96 => some [.nilFunc]
  | 97 => some [.nilFunc]
  | 98 => some [.pointer none]
  | 99 => some [.pointer none, .slice none 0 0]
  | 100 => some [.pointer none, .slice none 0 0]
  | 101 => some [.nilFunc]
  | 105 => some [.nilFunc]
  | 106 => some [.nilFunc]
  | 107 => some [.nilFunc]
  | 108 => some [.int .u64 0]
  | 109 => some [.nilFunc]
  | 111 => some [.nilFunc]
  | 112 => some [.nilFunc]
  | 113 => some [.nilFunc]
  | 114 => some [.nilFunc]
  | 115 => some [.pointer none]
  | 116 => some [.nilFunc]
  | 117 => some [.nilFunc]
  | 118 => some [.nilFunc]
  | 119 => some [.nilFunc]
  | 120 => some [.nilFunc]
  | 121 => some [.nilFunc]
  | 122 => some [.nilFunc]
  | 123 => some [.nilFunc]
  | 124 => some [.nilFunc]
  | 126 => some [.nilFunc]
  | 127 => some [.nilFunc]
  | 129 => some [.nilFunc]
  | 131 => some [.nilFunc]
  | 132 => some [.nilFunc]
  | 133 => some [.nilFunc]
  | 135 => some [.nilFunc]
  | 136 => some [.int .u32 0]
  | 138 => some [.nilFunc]
  | 139 => some [.int .i64 0]
  | 141 => some [.nilFunc]
  | 142 => some [.pointer none]
  | 143 => some [.nilFunc]
  | 144 => some [.nilFunc]
  | 145 => some [.nilFunc]
  | 146 => some [.int .i64 0]
  | 148 => some [.nilFunc]
  | 149 => some [.nilFunc]
  | 150 => some [.nilFunc]
  | 152 => some [.nilFunc]
  | 153 => some [.nilFunc]
  | 154 => some [.slice none 0 0]
  | 155 => some [.nilFunc]
  | 158 => some [.nilFunc]
  | 159 => some [.nilFunc]
  | 160 => some [.nilFunc]
  | 161 => some [.nilFunc]
  | 162 => some [.string ByteArray.empty, .string ByteArray.empty, .nilIface]
  | 163 => some [.string ByteArray.empty, .string ByteArray.empty, .nilIface]
  | 164 => some [.nilFunc]
  | 165 => some [.int .u64 0]
  | 166 => some [.nilFunc]
  | 167 => some [.nilFunc]
  | 168 => some [.nilFunc]
  | 169 => some [.pointer none]
  | 170 => some [.nilFunc]
  | 172 => some [.int .u8 0, .int .u8 0]
  | 173 => some [.int .u8 0, .int .u8 0]
  | 175 => some [.pointer none]
  | 176 => some [.string ByteArray.empty]
  | 177 => some [.string ByteArray.empty]
  | 178 => some [.pointer none]
  | 180 => some [.nilFunc]
  | 183 => some [.pointer none, .pointer none, .pointer none, .string ByteArray.empty]
  | 184 => some [.pointer none, .pointer none, .pointer none, .string ByteArray.empty]
  | 188 => some [.nilFunc]
  | 189 => some [.int .u8 0]
  | 190 => some [.int .u8 0]
  | 191 => some [.nilFunc]
  | 192 => some [.int .i32 0]
  | 193 => some [.int .i32 0]
  | 194 => some [.int .u64 0, .int .u64 0, .int .u32 0, .int .u8 0, .int .u8 0, .int .u8 0, .int .u8 0, .nilFunc, .pointer none, .int .i32 0, .int .i32 0]
  | 195 => some [.int .u64 0, .int .u64 0, .int .u32 0, .int .u8 0, .int .u8 0, .int .u8 0, .int .u8 0, .nilFunc, .pointer none, .int .i32 0, .int .i32 0]
  | _ => none
def eKnd : TypeId → Option TypeDesc
  | 2 => some (.int .i64)
  | 3 => some (.int .i64)
  | 4 => some (.bool)
  | 5 => some (.int .u8)
  | 6 => some (.int .u8)
  | 9 => some (.string)
  | 10 => some (.string)
  | 11 => some (.string)
  | 12 => some (.int .u64)
  | 21 => some (.int .i32)
  | 85 => some (.int .u64)
  | 108 => some (.int .u64)
  | 136 => some (.int .u32)
  | 139 => some (.int .i64)
  | 146 => some (.int .i64)
  | 165 => some (.int .u64)
  | 189 => some (.int .u8)
  | 190 => some (.int .u8)
  | 192 => some (.int .i32)
  | 193 => some (.int .i32)
  | _ => none
def eBld : TypeId → Option (List (Nat × Nat))
  | 7 => some [(0, 1), (1, 1), (2, 1), (3, 1)]
  | 8 => some [(0, 1), (1, 1), (2, 1), (3, 1)]
  | 13 => some [(0, 1), (1, 1)]
  | 14 => some [(0, 1), (1, 1)]
  | 18 => some [(0, 1)]
  | 19 => some [(0, 1)]
  | 25 => some [(0, 1), (1, 1)]
  | 26 => some [(0, 1), (1, 1)]
  | 42 => some [(0, 1)]
  | 43 => some [(0, 1)]
  | 45 => some [(0, 1), (1, 1)]
  | 46 => some [(0, 1), (1, 1)]
  | 86 => some [(0, 1), (1, 1), (2, 1)]
  | 87 => some [(0, 1), (1, 1), (2, 1)]
  | 99 => some [(0, 1), (1, 1)]
  | 100 => some [(0, 1), (1, 1)]
  | 162 => some [(0, 1), (1, 1), (2, 1)]
  | 163 => some [(0, 1), (1, 1), (2, 1)]
  | 172 => some [(0, 1), (1, 1)]
  | 173 => some [(0, 1), (1, 1)]
  | 176 => some [(0, 1)]
  | 177 => some [(0, 1)]
  | 183 => some [(0, 1), (1, 1), (2, 1), (3, 1)]
  | 184 => some [(0, 1), (1, 1), (2, 1), (3, 1)]
  | 194 => some [(0, 1), (1, 1), (2, 1), (3, 1), (4, 1), (5, 1), (6, 1), (7, 1), (8, 1), (9, 1), (10, 1)]
  | 195 => some [(0, 1), (1, 1), (2, 1), (3, 1), (4, 1), (5, 1), (6, 1), (7, 1), (8, 1), (9, 1), (10, 1)]
  | _ => none
def ePts : TypeId → Bool
  | 45 => true
  | 46 => true
  | _ => false
def eMp : TypeId → Option (KK × Value)
  | 67 => some (.int .i64, .int .i64 0)
  | 76 => some (.pt, .bool false)
  | _ => none
def eByt : TypeId → Bool
  | 22 => true
  | _ => false
def eIfc : TypeId → Bool
  | 20 => true
  | 102 => true
  | 103 => true
  | _ => false
def env : Env := { sl := eSl, var := eVar, fld := eFld, zero := eZero, knd := eKnd, bld := eBld, pts := ePts, mp := eMp, byt := eByt, ifc := eIfc }
theorem info1 : (Tryd.prog.info? 1).map (fun i => (i.zero, i.size, i.bytes)) = some (some (.nilFunc), 1, 8) := by kernel_rfl
theorem info2 : (Tryd.prog.info? 2).map (fun i => (i.zero, i.size, i.bytes)) = some (some (.int .i64 0), 1, 8) := by kernel_rfl
theorem info3 : (Tryd.prog.info? 3).map (fun i => (i.zero, i.size, i.bytes)) = some (some (.int .i64 0), 1, 8) := by kernel_rfl
theorem info4 : (Tryd.prog.info? 4).map (fun i => (i.zero, i.size, i.bytes)) = some (some (.bool false), 1, 1) := by kernel_rfl
theorem info5 : (Tryd.prog.info? 5).map (fun i => (i.zero, i.size, i.bytes)) = some (some (.int .u8 0), 1, 1) := by kernel_rfl
theorem info6 : (Tryd.prog.info? 6).map (fun i => (i.zero, i.size, i.bytes)) = some (some (.int .u8 0), 1, 1) := by kernel_rfl
theorem info7 : (Tryd.prog.info? 7).map (fun i => (i.zero, i.size, i.bytes)) = some (some (.agg #[.int .i64 0, .int .i64 0, .bool false, .int .u8 0]), 4, 24) := by kernel_rfl
theorem info8 : (Tryd.prog.info? 8).map (fun i => (i.zero, i.size, i.bytes)) = some (some (.agg #[.int .i64 0, .int .i64 0, .bool false, .int .u8 0]), 4, 24) := by kernel_rfl
theorem info9 : (Tryd.prog.info? 9).map (fun i => (i.zero, i.size, i.bytes)) = some (some (.string ByteArray.empty), 1, 16) := by kernel_rfl
theorem info10 : (Tryd.prog.info? 10).map (fun i => (i.zero, i.size, i.bytes)) = some (some (.string ByteArray.empty), 1, 16) := by kernel_rfl
theorem info11 : (Tryd.prog.info? 11).map (fun i => (i.zero, i.size, i.bytes)) = some (some (.string ByteArray.empty), 1, 16) := by kernel_rfl
theorem info12 : (Tryd.prog.info? 12).map (fun i => (i.zero, i.size, i.bytes)) = some (some (.int .u64 0), 1, 8) := by kernel_rfl
theorem info13 : (Tryd.prog.info? 13).map (fun i => (i.zero, i.size, i.bytes)) = some (some (.agg #[.string ByteArray.empty, .int .u64 0]), 2, 24) := by kernel_rfl
theorem info14 : (Tryd.prog.info? 14).map (fun i => (i.zero, i.size, i.bytes)) = some (some (.agg #[.string ByteArray.empty, .int .u64 0]), 2, 24) := by kernel_rfl
theorem info15 : (Tryd.prog.info? 15).map (fun i => (i.zero, i.size, i.bytes)) = some (some (.pointer none), 1, 8) := by kernel_rfl
theorem info16 : (Tryd.prog.info? 16).map (fun i => (i.zero, i.size, i.bytes)) = some (some (.pointer none), 1, 8) := by kernel_rfl
theorem info17 : (Tryd.prog.info? 17).map (fun i => (i.zero, i.size, i.bytes)) = some (some (.pointer none), 1, 8) := by kernel_rfl
theorem info18 : (Tryd.prog.info? 18).map (fun i => (i.zero, i.size, i.bytes)) = some (some (.agg #[.pointer none]), 1, 8) := by kernel_rfl
theorem info19 : (Tryd.prog.info? 19).map (fun i => (i.zero, i.size, i.bytes)) = some (some (.agg #[.pointer none]), 1, 8) := by kernel_rfl
theorem info21 : (Tryd.prog.info? 21).map (fun i => (i.zero, i.size, i.bytes)) = some (some (.int .i32 0), 1, 4) := by kernel_rfl
theorem info22 : (Tryd.prog.info? 22).map (fun i => (i.zero, i.size, i.bytes)) = some (some (.slice none 0 0), 1, 24) := by kernel_rfl
theorem info23 : (Tryd.prog.info? 23).map (fun i => (i.zero, i.size, i.bytes)) = some (some (.nilFunc), 1, 8) := by kernel_rfl
theorem info24 : (Tryd.prog.info? 24).map (fun i => (i.zero, i.size, i.bytes)) = some (some (.slice none 0 0), 1, 24) := by kernel_rfl
theorem info25 : (Tryd.prog.info? 25).map (fun i => (i.zero, i.size, i.bytes)) = some (some (.agg #[.slice none 0 0, .slice none 0 0]), 2, 48) := by kernel_rfl
theorem info26 : (Tryd.prog.info? 26).map (fun i => (i.zero, i.size, i.bytes)) = some (some (.agg #[.slice none 0 0, .slice none 0 0]), 2, 48) := by kernel_rfl
theorem info27 : (Tryd.prog.info? 27).map (fun i => (i.zero, i.size, i.bytes)) = some (some (.nilFunc), 1, 8) := by kernel_rfl
theorem info29 : (Tryd.prog.info? 29).map (fun i => (i.zero, i.size, i.bytes)) = some (some (.nilFunc), 1, 8) := by kernel_rfl
theorem info31 : (Tryd.prog.info? 31).map (fun i => (i.zero, i.size, i.bytes)) = some (some (.nilFunc), 1, 8) := by kernel_rfl
theorem info33 : (Tryd.prog.info? 33).map (fun i => (i.zero, i.size, i.bytes)) = some (some (.nilFunc), 1, 8) := by kernel_rfl
theorem info35 : (Tryd.prog.info? 35).map (fun i => (i.zero, i.size, i.bytes)) = some (some (.nilFunc), 1, 8) := by kernel_rfl
theorem info36 : (Tryd.prog.info? 36).map (fun i => (i.zero, i.size, i.bytes)) = some (some (.nilFunc), 1, 8) := by kernel_rfl
theorem info37 : (Tryd.prog.info? 37).map (fun i => (i.zero, i.size, i.bytes)) = some (some (.nilFunc), 1, 8) := by kernel_rfl
theorem info39 : (Tryd.prog.info? 39).map (fun i => (i.zero, i.size, i.bytes)) = some (some (.nilFunc), 1, 8) := by kernel_rfl
theorem info40 : (Tryd.prog.info? 40).map (fun i => (i.zero, i.size, i.bytes)) = some (some (.nilFunc), 1, 8) := by kernel_rfl
theorem info41 : (Tryd.prog.info? 41).map (fun i => (i.zero, i.size, i.bytes)) = some (some (.slice none 0 0), 1, 24) := by kernel_rfl
theorem info42 : (Tryd.prog.info? 42).map (fun i => (i.zero, i.size, i.bytes)) = some (some (.agg #[.slice none 0 0]), 1, 24) := by kernel_rfl
theorem info43 : (Tryd.prog.info? 43).map (fun i => (i.zero, i.size, i.bytes)) = some (some (.agg #[.slice none 0 0]), 1, 24) := by kernel_rfl
theorem info44 : (Tryd.prog.info? 44).map (fun i => (i.zero, i.size, i.bytes)) = some (some (.nilFunc), 1, 8) := by kernel_rfl
theorem info45 : (Tryd.prog.info? 45).map (fun i => (i.zero, i.size, i.bytes)) = some (some (.agg #[.int .i64 0, .int .i64 0]), 2, 16) := by kernel_rfl
theorem info46 : (Tryd.prog.info? 46).map (fun i => (i.zero, i.size, i.bytes)) = some (some (.agg #[.int .i64 0, .int .i64 0]), 2, 16) := by kernel_rfl
theorem info47 : (Tryd.prog.info? 47).map (fun i => (i.zero, i.size, i.bytes)) = some (some (.nilFunc), 1, 8) := by kernel_rfl
theorem info48 : (Tryd.prog.info? 48).map (fun i => (i.zero, i.size, i.bytes)) = some (some (.slice none 0 0), 1, 24) := by kernel_rfl
theorem info50 : (Tryd.prog.info? 50).map (fun i => (i.zero, i.size, i.bytes)) = some (some (.nilFunc), 1, 8) := by kernel_rfl
theorem info51 : (Tryd.prog.info? 51).map (fun i => (i.zero, i.size, i.bytes)) = some (some (.nilFunc), 1, 8) := by kernel_rfl
theorem info52 : (Tryd.prog.info? 52).map (fun i => (i.zero, i.size, i.bytes)) = some (some (.nilFunc), 1, 8) := by kernel_rfl
theorem info53 : (Tryd.prog.info? 53).map (fun i => (i.zero, i.size, i.bytes)) = some (some (.nilFunc), 1, 8) := by kernel_rfl
theorem info55 : (Tryd.prog.info? 55).map (fun i => (i.zero, i.size, i.bytes)) = some (some (.nilFunc), 1, 8) := by kernel_rfl
theorem info56 : (Tryd.prog.info? 56).map (fun i => (i.zero, i.size, i.bytes)) = some (some (.nilFunc), 1, 8) := by kernel_rfl
theorem info57 : (Tryd.prog.info? 57).map (fun i => (i.zero, i.size, i.bytes)) = some (some (.pointer none), 1, 8) := by kernel_rfl
theorem info58 : (Tryd.prog.info? 58).map (fun i => (i.zero, i.size, i.bytes)) = some (some (.nilFunc), 1, 8) := by kernel_rfl
theorem info59 : (Tryd.prog.info? 59).map (fun i => (i.zero, i.size, i.bytes)) = some (some (.nilFunc), 1, 8) := by kernel_rfl
theorem info60 : (Tryd.prog.info? 60).map (fun i => (i.zero, i.size, i.bytes)) = some (some (.nilFunc), 1, 8) := by kernel_rfl
theorem info61 : (Tryd.prog.info? 61).map (fun i => (i.zero, i.size, i.bytes)) = some (some (.nilFunc), 1, 8) := by kernel_rfl
theorem info62 : (Tryd.prog.info? 62).map (fun i => (i.zero, i.size, i.bytes)) = some (some (.nilFunc), 1, 8) := by kernel_rfl
theorem info64 : (Tryd.prog.info? 64).map (fun i => (i.zero, i.size, i.bytes)) = some (some (.nilFunc), 1, 8) := by kernel_rfl
theorem info65 : (Tryd.prog.info? 65).map (fun i => (i.zero, i.size, i.bytes)) = some (some (.nilFunc), 1, 8) := by kernel_rfl
theorem info66 : (Tryd.prog.info? 66).map (fun i => (i.zero, i.size, i.bytes)) = some (some (.nilFunc), 1, 8) := by kernel_rfl
theorem info67 : (Tryd.prog.info? 67).map (fun i => (i.zero, i.size, i.bytes)) = some (some (.map none), 1, 8) := by kernel_rfl
theorem info68 : (Tryd.prog.info? 68).map (fun i => (i.zero, i.size, i.bytes)) = some (some (.nilFunc), 1, 8) := by kernel_rfl
theorem info69 : (Tryd.prog.info? 69).map (fun i => (i.zero, i.size, i.bytes)) = some (some (.nilFunc), 1, 8) := by kernel_rfl
theorem info71 : (Tryd.prog.info? 71).map (fun i => (i.zero, i.size, i.bytes)) = some (some (.nilFunc), 1, 8) := by kernel_rfl
theorem info72 : (Tryd.prog.info? 72).map (fun i => (i.zero, i.size, i.bytes)) = some (some (.nilFunc), 1, 8) := by kernel_rfl
theorem info73 : (Tryd.prog.info? 73).map (fun i => (i.zero, i.size, i.bytes)) = some (some (.nilFunc), 1, 8) := by kernel_rfl
theorem info74 : (Tryd.prog.info? 74).map (fun i => (i.zero, i.size, i.bytes)) = some (some (.pointer none), 1, 8) := by kernel_rfl
theorem info75 : (Tryd.prog.info? 75).map (fun i => (i.zero, i.size, i.bytes)) = some (some (.nilFunc), 1, 8) := by kernel_rfl
theorem info76 : (Tryd.prog.info? 76).map (fun i => (i.zero, i.size, i.bytes)) = some (some (.map none), 1, 8) := by kernel_rfl
theorem info77 : (Tryd.prog.info? 77).map (fun i => (i.zero, i.size, i.bytes)) = some (some (.nilFunc), 1, 8) := by kernel_rfl
theorem info78 : (Tryd.prog.info? 78).map (fun i => (i.zero, i.size, i.bytes)) = some (some (.nilFunc), 1, 8) := by kernel_rfl
theorem info79 : (Tryd.prog.info? 79).map (fun i => (i.zero, i.size, i.bytes)) = some (some (.nilFunc), 1, 8) := by kernel_rfl
theorem info80 : (Tryd.prog.info? 80).map (fun i => (i.zero, i.size, i.bytes)) = some (some (.nilFunc), 1, 8) := by kernel_rfl
theorem info81 : (Tryd.prog.info? 81).map (fun i => (i.zero, i.size, i.bytes)) = some (some (.slice none 0 0), 1, 24) := by kernel_rfl
theorem info82 : (Tryd.prog.info? 82).map (fun i => (i.zero, i.size, i.bytes)) = some (some (.nilFunc), 1, 8) := by kernel_rfl
theorem info83 : (Tryd.prog.info? 83).map (fun i => (i.zero, i.size, i.bytes)) = some (some (.nilFunc), 1, 8) := by kernel_rfl
theorem info84 : (Tryd.prog.info? 84).map (fun i => (i.zero, i.size, i.bytes)) = some (some (.nilFunc), 1, 8) := by kernel_rfl
theorem info85 : (Tryd.prog.info? 85).map (fun i => (i.zero, i.size, i.bytes)) = some (some (.int .u64 0), 1, 8) := by kernel_rfl
theorem info86 : (Tryd.prog.info? 86).map (fun i => (i.zero, i.size, i.bytes)) = some (some (.agg #[.slice none 0 0, .int .i64 0, .int .u64 0]), 3, 40) := by kernel_rfl
theorem info87 : (Tryd.prog.info? 87).map (fun i => (i.zero, i.size, i.bytes)) = some (some (.agg #[.slice none 0 0, .int .i64 0, .int .u64 0]), 3, 40) := by kernel_rfl
theorem info88 : (Tryd.prog.info? 88).map (fun i => (i.zero, i.size, i.bytes)) = some (some (.nilFunc), 1, 8) := by kernel_rfl
theorem info89 : (Tryd.prog.info? 89).map (fun i => (i.zero, i.size, i.bytes)) = some (some (.pointer none), 1, 8) := by kernel_rfl
theorem info90 : (Tryd.prog.info? 90).map (fun i => (i.zero, i.size, i.bytes)) = some (some (.nilFunc), 1, 8) := by kernel_rfl
theorem info91 : (Tryd.prog.info? 91).map (fun i => (i.zero, i.size, i.bytes)) = some (some (.nilFunc), 1, 8) := by kernel_rfl
theorem info92 : (Tryd.prog.info? 92).map (fun i => (i.zero, i.size, i.bytes)) = some (some (.nilFunc), 1, 8) := by kernel_rfl
theorem info93 : (Tryd.prog.info? 93).map (fun i => (i.zero, i.size, i.bytes)) = some (some (.nilFunc), 1, 8) := by kernel_rfl
theorem info94 : (Tryd.prog.info? 94).map (fun i => (i.zero, i.size, i.bytes)) = some (some (.nilFunc), 1, 8) := by kernel_rfl
theorem info95 : (Tryd.prog.info? 95).map (fun i => (i.zero, i.size, i.bytes)) = some (some (.nilFunc), 1, 8) := by kernel_rfl
theorem info96 : (Tryd.prog.info? 96).map (fun i => (i.zero, i.size, i.bytes)) = some (some (.nilFunc), 1, 8) := by kernel_rfl
theorem info97 : (Tryd.prog.info? 97).map (fun i => (i.zero, i.size, i.bytes)) = some (some (.nilFunc), 1, 8) := by kernel_rfl
theorem info98 : (Tryd.prog.info? 98).map (fun i => (i.zero, i.size, i.bytes)) = some (some (.pointer none), 1, 8) := by kernel_rfl
theorem info99 : (Tryd.prog.info? 99).map (fun i => (i.zero, i.size, i.bytes)) = some (some (.agg #[.pointer none, .slice none 0 0]), 2, 32) := by kernel_rfl
theorem info100 : (Tryd.prog.info? 100).map (fun i => (i.zero, i.size, i.bytes)) = some (some (.agg #[.pointer none, .slice none 0 0]), 2, 32) := by kernel_rfl
theorem info101 : (Tryd.prog.info? 101).map (fun i => (i.zero, i.size, i.bytes)) = some (some (.nilFunc), 1, 8) := by kernel_rfl
theorem info105 : (Tryd.prog.info? 105).map (fun i => (i.zero, i.size, i.bytes)) = some (some (.nilFunc), 1, 8) := by kernel_rfl
theorem info106 : (Tryd.prog.info? 106).map (fun i => (i.zero, i.size, i.bytes)) = some (some (.nilFunc), 1, 8) := by kernel_rfl
theorem info107 : (Tryd.prog.info? 107).map (fun i => (i.zero, i.size, i.bytes)) = some (some (.nilFunc), 1, 8) := by kernel_rfl
theorem info108 : (Tryd.prog.info? 108).map (fun i => (i.zero, i.size, i.bytes)) = some (some (.int .u64 0), 1, 8) := by kernel_rfl
theorem info109 : (Tryd.prog.info? 109).map (fun i => (i.zero, i.size, i.bytes)) = some (some (.nilFunc), 1, 8) := by kernel_rfl
theorem info111 : (Tryd.prog.info? 111).map (fun i => (i.zero, i.size, i.bytes)) = some (some (.nilFunc), 1, 8) := by kernel_rfl
theorem info112 : (Tryd.prog.info? 112).map (fun i => (i.zero, i.size, i.bytes)) = some (some (.nilFunc), 1, 8) := by kernel_rfl
theorem info113 : (Tryd.prog.info? 113).map (fun i => (i.zero, i.size, i.bytes)) = some (some (.nilFunc), 1, 8) := by kernel_rfl
theorem info114 : (Tryd.prog.info? 114).map (fun i => (i.zero, i.size, i.bytes)) = some (some (.nilFunc), 1, 8) := by kernel_rfl
theorem info115 : (Tryd.prog.info? 115).map (fun i => (i.zero, i.size, i.bytes)) = some (some (.pointer none), 1, 8) := by kernel_rfl
theorem info116 : (Tryd.prog.info? 116).map (fun i => (i.zero, i.size, i.bytes)) = some (some (.nilFunc), 1, 8) := by kernel_rfl
theorem info117 : (Tryd.prog.info? 117).map (fun i => (i.zero, i.size, i.bytes)) = some (some (.nilFunc), 1, 8) := by kernel_rfl
theorem info118 : (Tryd.prog.info? 118).map (fun i => (i.zero, i.size, i.bytes)) = some (some (.nilFunc), 1, 8) := by kernel_rfl
theorem info119 : (Tryd.prog.info? 119).map (fun i => (i.zero, i.size, i.bytes)) = some (some (.nilFunc), 1, 8) := by kernel_rfl
theorem info120 : (Tryd.prog.info? 120).map (fun i => (i.zero, i.size, i.bytes)) = some (some (.nilFunc), 1, 8) := by kernel_rfl
theorem info121 : (Tryd.prog.info? 121).map (fun i => (i.zero, i.size, i.bytes)) = some (some (.nilFunc), 1, 8) := by kernel_rfl
theorem info122 : (Tryd.prog.info? 122).map (fun i => (i.zero, i.size, i.bytes)) = some (some (.nilFunc), 1, 8) := by kernel_rfl
theorem info123 : (Tryd.prog.info? 123).map (fun i => (i.zero, i.size, i.bytes)) = some (some (.nilFunc), 1, 8) := by kernel_rfl
theorem info124 : (Tryd.prog.info? 124).map (fun i => (i.zero, i.size, i.bytes)) = some (some (.nilFunc), 1, 8) := by kernel_rfl
theorem info126 : (Tryd.prog.info? 126).map (fun i => (i.zero, i.size, i.bytes)) = some (some (.nilFunc), 1, 8) := by kernel_rfl
theorem info127 : (Tryd.prog.info? 127).map (fun i => (i.zero, i.size, i.bytes)) = some (some (.nilFunc), 1, 8) := by kernel_rfl
theorem info129 : (Tryd.prog.info? 129).map (fun i => (i.zero, i.size, i.bytes)) = some (some (.nilFunc), 1, 8) := by kernel_rfl
theorem info131 : (Tryd.prog.info? 131).map (fun i => (i.zero, i.size, i.bytes)) = some (some (.nilFunc), 1, 8) := by kernel_rfl
theorem info132 : (Tryd.prog.info? 132).map (fun i => (i.zero, i.size, i.bytes)) = some (some (.nilFunc), 1, 8) := by kernel_rfl
theorem info133 : (Tryd.prog.info? 133).map (fun i => (i.zero, i.size, i.bytes)) = some (some (.nilFunc), 1, 8) := by kernel_rfl
theorem info135 : (Tryd.prog.info? 135).map (fun i => (i.zero, i.size, i.bytes)) = some (some (.nilFunc), 1, 8) := by kernel_rfl
theorem info136 : (Tryd.prog.info? 136).map (fun i => (i.zero, i.size, i.bytes)) = some (some (.int .u32 0), 1, 4) := by kernel_rfl
theorem info138 : (Tryd.prog.info? 138).map (fun i => (i.zero, i.size, i.bytes)) = some (some (.nilFunc), 1, 8) := by kernel_rfl
theorem info139 : (Tryd.prog.info? 139).map (fun i => (i.zero, i.size, i.bytes)) = some (some (.int .i64 0), 1, 8) := by kernel_rfl
theorem info141 : (Tryd.prog.info? 141).map (fun i => (i.zero, i.size, i.bytes)) = some (some (.nilFunc), 1, 8) := by kernel_rfl
theorem info142 : (Tryd.prog.info? 142).map (fun i => (i.zero, i.size, i.bytes)) = some (some (.pointer none), 1, 8) := by kernel_rfl
theorem info143 : (Tryd.prog.info? 143).map (fun i => (i.zero, i.size, i.bytes)) = some (some (.nilFunc), 1, 8) := by kernel_rfl
theorem info144 : (Tryd.prog.info? 144).map (fun i => (i.zero, i.size, i.bytes)) = some (some (.nilFunc), 1, 8) := by kernel_rfl
theorem info145 : (Tryd.prog.info? 145).map (fun i => (i.zero, i.size, i.bytes)) = some (some (.nilFunc), 1, 8) := by kernel_rfl
theorem info146 : (Tryd.prog.info? 146).map (fun i => (i.zero, i.size, i.bytes)) = some (some (.int .i64 0), 1, 8) := by kernel_rfl
theorem info148 : (Tryd.prog.info? 148).map (fun i => (i.zero, i.size, i.bytes)) = some (some (.nilFunc), 1, 8) := by kernel_rfl
theorem info149 : (Tryd.prog.info? 149).map (fun i => (i.zero, i.size, i.bytes)) = some (some (.nilFunc), 1, 8) := by kernel_rfl
theorem info150 : (Tryd.prog.info? 150).map (fun i => (i.zero, i.size, i.bytes)) = some (some (.nilFunc), 1, 8) := by kernel_rfl
theorem info152 : (Tryd.prog.info? 152).map (fun i => (i.zero, i.size, i.bytes)) = some (some (.nilFunc), 1, 8) := by kernel_rfl
theorem info153 : (Tryd.prog.info? 153).map (fun i => (i.zero, i.size, i.bytes)) = some (some (.nilFunc), 1, 8) := by kernel_rfl
theorem info154 : (Tryd.prog.info? 154).map (fun i => (i.zero, i.size, i.bytes)) = some (some (.slice none 0 0), 1, 24) := by kernel_rfl
theorem info155 : (Tryd.prog.info? 155).map (fun i => (i.zero, i.size, i.bytes)) = some (some (.nilFunc), 1, 8) := by kernel_rfl
theorem info158 : (Tryd.prog.info? 158).map (fun i => (i.zero, i.size, i.bytes)) = some (some (.nilFunc), 1, 8) := by kernel_rfl
theorem info159 : (Tryd.prog.info? 159).map (fun i => (i.zero, i.size, i.bytes)) = some (some (.nilFunc), 1, 8) := by kernel_rfl
theorem info160 : (Tryd.prog.info? 160).map (fun i => (i.zero, i.size, i.bytes)) = some (some (.nilFunc), 1, 8) := by kernel_rfl
theorem info161 : (Tryd.prog.info? 161).map (fun i => (i.zero, i.size, i.bytes)) = some (some (.nilFunc), 1, 8) := by kernel_rfl
theorem info162 : (Tryd.prog.info? 162).map (fun i => (i.zero, i.size, i.bytes)) = some (some (.agg #[.string ByteArray.empty, .string ByteArray.empty, .nilIface]), 3, 48) := by kernel_rfl
theorem info163 : (Tryd.prog.info? 163).map (fun i => (i.zero, i.size, i.bytes)) = some (some (.agg #[.string ByteArray.empty, .string ByteArray.empty, .nilIface]), 3, 48) := by kernel_rfl
theorem info164 : (Tryd.prog.info? 164).map (fun i => (i.zero, i.size, i.bytes)) = some (some (.nilFunc), 1, 8) := by kernel_rfl
theorem info165 : (Tryd.prog.info? 165).map (fun i => (i.zero, i.size, i.bytes)) = some (some (.int .u64 0), 1, 8) := by kernel_rfl
theorem info166 : (Tryd.prog.info? 166).map (fun i => (i.zero, i.size, i.bytes)) = some (some (.nilFunc), 1, 8) := by kernel_rfl
theorem info167 : (Tryd.prog.info? 167).map (fun i => (i.zero, i.size, i.bytes)) = some (some (.nilFunc), 1, 8) := by kernel_rfl
theorem info168 : (Tryd.prog.info? 168).map (fun i => (i.zero, i.size, i.bytes)) = some (some (.nilFunc), 1, 8) := by kernel_rfl
theorem info169 : (Tryd.prog.info? 169).map (fun i => (i.zero, i.size, i.bytes)) = some (some (.pointer none), 1, 8) := by kernel_rfl
theorem info170 : (Tryd.prog.info? 170).map (fun i => (i.zero, i.size, i.bytes)) = some (some (.nilFunc), 1, 8) := by kernel_rfl
theorem info172 : (Tryd.prog.info? 172).map (fun i => (i.zero, i.size, i.bytes)) = some (some (.agg #[.int .u8 0, .int .u8 0]), 2, 2) := by kernel_rfl
theorem info173 : (Tryd.prog.info? 173).map (fun i => (i.zero, i.size, i.bytes)) = some (some (.agg #[.int .u8 0, .int .u8 0]), 2, 2) := by kernel_rfl
theorem info175 : (Tryd.prog.info? 175).map (fun i => (i.zero, i.size, i.bytes)) = some (some (.pointer none), 1, 8) := by kernel_rfl
theorem info176 : (Tryd.prog.info? 176).map (fun i => (i.zero, i.size, i.bytes)) = some (some (.agg #[.string ByteArray.empty]), 1, 16) := by kernel_rfl
theorem info177 : (Tryd.prog.info? 177).map (fun i => (i.zero, i.size, i.bytes)) = some (some (.agg #[.string ByteArray.empty]), 1, 16) := by kernel_rfl
theorem info178 : (Tryd.prog.info? 178).map (fun i => (i.zero, i.size, i.bytes)) = some (some (.pointer none), 1, 8) := by kernel_rfl
theorem info180 : (Tryd.prog.info? 180).map (fun i => (i.zero, i.size, i.bytes)) = some (some (.nilFunc), 1, 8) := by kernel_rfl
theorem info183 : (Tryd.prog.info? 183).map (fun i => (i.zero, i.size, i.bytes)) = some (some (.agg #[.pointer none, .pointer none, .pointer none, .string ByteArray.empty]), 4, 40) := by kernel_rfl
theorem info184 : (Tryd.prog.info? 184).map (fun i => (i.zero, i.size, i.bytes)) = some (some (.agg #[.pointer none, .pointer none, .pointer none, .string ByteArray.empty]), 4, 40) := by kernel_rfl
theorem info188 : (Tryd.prog.info? 188).map (fun i => (i.zero, i.size, i.bytes)) = some (some (.nilFunc), 1, 8) := by kernel_rfl
theorem info189 : (Tryd.prog.info? 189).map (fun i => (i.zero, i.size, i.bytes)) = some (some (.int .u8 0), 1, 1) := by kernel_rfl
theorem info190 : (Tryd.prog.info? 190).map (fun i => (i.zero, i.size, i.bytes)) = some (some (.int .u8 0), 1, 1) := by kernel_rfl
theorem info191 : (Tryd.prog.info? 191).map (fun i => (i.zero, i.size, i.bytes)) = some (some (.nilFunc), 1, 8) := by kernel_rfl
theorem info192 : (Tryd.prog.info? 192).map (fun i => (i.zero, i.size, i.bytes)) = some (some (.int .i32 0), 1, 4) := by kernel_rfl
theorem info193 : (Tryd.prog.info? 193).map (fun i => (i.zero, i.size, i.bytes)) = some (some (.int .i32 0), 1, 4) := by kernel_rfl
theorem info194 : (Tryd.prog.info? 194).map (fun i => (i.zero, i.size, i.bytes)) = some (some (.agg #[.int .u64 0, .int .u64 0, .int .u32 0, .int .u8 0, .int .u8 0, .int .u8 0, .int .u8 0, .nilFunc, .pointer none, .int .i32 0, .int .i32 0]), 11, 48) := by kernel_rfl
theorem info195 : (Tryd.prog.info? 195).map (fun i => (i.zero, i.size, i.bytes)) = some (some (.agg #[.int .u64 0, .int .u64 0, .int .u32 0, .int .u8 0, .int .u8 0, .int .u8 0, .int .u8 0, .nilFunc, .pointer none, .int .i32 0, .int .i32 0]), 11, 48) := by kernel_rfl
theorem env_sl : ∀ t e, eSl t = some e → ∃ et i z, Tryd.prog.underlying t = some (.slice et) ∧ Tryd.prog.info? et = some i ∧ i.size = e.sz ∧ i.zero = some z ∧ z.cells.size = e.sz ∧ i.bytes ≤ 64 ∧
    ∀ j, j < e.sz → (e.enc e.d).getD j .junk = .v (z.cells.toList.getD j undef) ∨ ∃ e', (e.enc e.d).getD j .junk = .rd e' [] ∧ z.cells.toList.getD j undef = .slice none 0 0 := by
  intro t e h
  unfold eSl at h
  split at h
  · cases h; obtain ⟨i, h1, h2, h3, h4⟩ := info_parts info5
    exact ⟨5, i, _, Tryd.underlying22, h1, h3, h2, rfl, by rw [h4]; decide, fun j hj => .inl (by rcases j with _ | j <;> first | rfl | (exact absurd hj (by simp [ETy.sz])))⟩
  · cases h; obtain ⟨i, h1, h2, h3, h4⟩ := info_parts info2
    exact ⟨2, i, _, Tryd.underlying24, h1, h3, h2, rfl, by rw [h4]; decide, fun j hj => .inl (by rcases j with _ | j <;> first | rfl | (exact absurd hj (by simp [ETy.sz])))⟩
  · cases h; obtain ⟨i, h1, h2, h3, h4⟩ := info_parts info24
    exact ⟨24, i, _, Tryd.underlying41, h1, h3, h2, rfl, by rw [h4]; decide, fun j hj => .inr ⟨_, by rcases j with _ | j <;> first | rfl | (exact absurd hj (by simp [ETy.sz])), by rcases j with _ | j <;> first | rfl | (exact absurd hj (by simp [ETy.sz]))⟩⟩
  · cases h; obtain ⟨i, h1, h2, h3, h4⟩ := info_parts info46
    exact ⟨46, i, _, Tryd.underlying48, h1, h3, h2, rfl, by rw [h4]; decide, fun j hj => .inl (by rcases j with _ | _ | j <;> first | rfl | (exact absurd hj (by simp [ETy.sz])))⟩
  · cases h; obtain ⟨i, h1, h2, h3, h4⟩ := info_parts info9
    exact ⟨9, i, _, Tryd.underlying81, h1, h3, h2, rfl, by rw [h4]; decide, fun j hj => .inl (by rcases j with _ | j <;> first | rfl | (exact absurd hj (by simp [ETy.sz])))⟩
  · cases h; obtain ⟨i, h1, h2, h3, h4⟩ := info_parts info3
    exact ⟨3, i, _, Tryd.underlying154, h1, h3, h2, rfl, by rw [h4]; decide, fun j hj => .inl (by rcases j with _ | j <;> first | rfl | (exact absurd hj (by simp [ETy.sz])))⟩
  · cases h
theorem info_three {P : Program} {e : TypeId} {z : Option Value} {size bytes : Nat} (h : (P.info? e).map (fun i => (i.zero, i.size, i.bytes)) = some (z, size, bytes)) : ∃ i, P.info? e = some i ∧ i.size = size := by
  obtain ⟨i, hi, hzz⟩ := Option.map_eq_some_iff.1 h
  simp only [Prod.mk.injEq] at hzz
  exact ⟨i, hi, hzz.2.1⟩
theorem env_var : ∀ t a s, eVar t = some (a, s) → ∃ d i, Tryd.prog.underlying t = some d ∧ (match d with | .struct _ | .array _ _ => true | _ => false) = a ∧ Tryd.prog.info? t = some i ∧ i.size = s := by
  intro t a s h
  unfold eVar at h
  split at h
  · cases h; obtain ⟨i, h1, h2⟩ := info_three info1; exact ⟨_, i, Tryd.underlying1, rfl, h1, h2⟩
  · cases h; obtain ⟨i, h1, h2⟩ := info_three info2; exact ⟨_, i, Tryd.underlying2, rfl, h1, h2⟩
  · cases h; obtain ⟨i, h1, h2⟩ := info_three info3; exact ⟨_, i, Tryd.underlying3, rfl, h1, h2⟩
  · cases h; obtain ⟨i, h1, h2⟩ := info_three info4; exact ⟨_, i, Tryd.underlying4, rfl, h1, h2⟩
  · cases h; obtain ⟨i, h1, h2⟩ := info_three info5; exact ⟨_, i, Tryd.underlying5, rfl, h1, h2⟩
  · cases h; obtain ⟨i, h1, h2⟩ := info_three info6; exact ⟨_, i, Tryd.underlying6, rfl, h1, h2⟩
  · cases h; obtain ⟨i, h1, h2⟩ := info_three info7; exact ⟨_, i, Tryd.underlying7, rfl, h1, h2⟩
  · cases h; obtain ⟨i, h1, h2⟩ := info_three info8; exact ⟨_, i, Tryd.underlying8, rfl, h1, h2⟩
  · cases h; obtain ⟨i, h1, h2⟩ := info_three info9; exact ⟨_, i, Tryd.underlying9, rfl, h1, h2⟩
  · cases h; obtain ⟨i, h1, h2⟩ := info_three info10; exact ⟨_, i, Tryd.underlying10, rfl, h1, h2⟩
  · cases h; obtain ⟨i, h1, h2⟩ := info_three info11; exact ⟨_, i, Tryd.underlying11, rfl, h1, h2⟩
  · cases h; obtain ⟨i, h1, h2⟩ := info_three info12; exact ⟨_, i, Tryd.underlying12, rfl, h1, h2⟩
  · cases h; obtain ⟨i, h1, h2⟩ := info_three info13; exact ⟨_, i, Tryd.underlying13, rfl, h1, h2⟩
  · cases h; obtain ⟨i, h1, h2⟩ := info_three info14; exact ⟨_, i, Tryd.underlying14, rfl, h1, h2⟩
  · cases h; obtain ⟨i, h1, h2⟩ := info_three info15; exact ⟨_, i, Tryd.underlying15, rfl, h1, h2⟩
  · cases h; obtain ⟨i, h1, h2⟩ := info_three info16; exact ⟨_, i, Tryd.underlying16, rfl, h1, h2⟩
  · cases h; obtain ⟨i, h1, h2⟩ := info_three info17; exact ⟨_, i, Tryd.underlying17, rfl, h1, h2⟩
  · cases h; obtain ⟨i, h1, h2⟩ := info_three info18; exact ⟨_, i, Tryd.underlying18, rfl, h1, h2⟩
  · cases h; obtain ⟨i, h1, h2⟩ := info_three info19; exact ⟨_, i, Tryd.underlying19, rfl, h1, h2⟩
  · cases h; obtain ⟨i, h1, h2⟩ := info_three info21; exact ⟨_, i, Tryd.underlying21, rfl, h1, h2⟩
  · cases h; obtain ⟨i, h1, h2⟩ := info_three info22; exact ⟨_, i, Tryd.underlying22, rfl, h1, h2⟩
  · cases h; obtain ⟨i, h1, h2⟩ := info_three info23; exact ⟨_, i, Tryd.underlying23, rfl, h1, h2⟩
  · cases h; obtain ⟨i, h1, h2⟩ := info_three info24; exact ⟨_, i, Tryd.underlying24, rfl, h1, h2⟩
  · cases h; obtain ⟨i, h1, h2⟩ := info_three info25; exact ⟨_, i, Tryd.underlying25, rfl, h1, h2⟩
  · cases h; obtain ⟨i, h1, h2⟩ := info_three info26; exact ⟨_, i, Tryd.underlying26, rfl, h1, h2⟩
  · cases h; obtain ⟨i, h1, h2⟩ := info_three info27; exact ⟨_, i, Tryd.underlying27, rfl, h1, h2⟩
  · cases h; obtain ⟨i, h1, h2⟩ := info_three info29; exact ⟨_, i, Tryd.underlying29, rfl, h1, h2⟩
  · cases h; obtain ⟨i, h1, h2⟩ := info_three info31; exact ⟨_, i, Tryd.underlying31, rfl, h1, h2⟩
  · cases h; obtain ⟨i, h1, h2⟩ := info_three info33; exact ⟨_, i, Tryd.underlying33, rfl, h1, h2⟩
  · cases h; obtain ⟨i, h1, h2⟩ := info_three info35; exact ⟨_, i, Tryd.underlying35, rfl, h1, h2⟩
  · cases h; obtain ⟨i, h1, h2⟩ := info_three info36; exact ⟨_, i, Tryd.underlying36, rfl, h1, h2⟩
  · cases h; obtain ⟨i, h1, h2⟩ := info_three info37; exact ⟨_, i, Tryd.underlying37, rfl, h1, h2⟩
  · cases h; obtain ⟨i, h1, h2⟩ := info_three info39; exact ⟨_, i, Tryd.underlying39, rfl, h1, h2⟩
  · cases h; obtain ⟨i, h1, h2⟩ := info_three info40; exact ⟨_, i, Tryd.underlying40, rfl, h1, h2⟩
  · cases h; obtain ⟨i, h1, h2⟩ := info_three info41; exact ⟨_, i, Tryd.underlying41, rfl, h1, h2⟩
  · cases h; obtain ⟨i, h1, h2⟩ := info_three info42; exact ⟨_, i, Tryd.underlying42, rfl, h1, h2⟩
  · cases h; obtain ⟨i, h1, h2⟩ := info_three info43; exact ⟨_, i, Tryd.underlying43, rfl, h1, h2⟩
  · cases h; obtain ⟨i, h1, h2⟩ := info_three info44; exact ⟨_, i, Tryd.underlying44, rfl, h1, h2⟩
  · cases h; obtain ⟨i, h1, h2⟩ := info_three info45; exact ⟨_, i, Tryd.underlying45, rfl, h1, h2⟩
  · cases h; obtain ⟨i, h1, h2⟩ := info_three info46; exact ⟨_, i, Tryd.underlying46, rfl, h1, h2⟩
  · cases h; obtain ⟨i, h1, h2⟩ := info_three info47; exact ⟨_, i, Tryd.underlying47, rfl, h1, h2⟩
  · cases h; obtain ⟨i, h1, h2⟩ := info_three info48; exact ⟨_, i, Tryd.underlying48, rfl, h1, h2⟩
  · cases h; obtain ⟨i, h1, h2⟩ := info_three info50; exact ⟨_, i, Tryd.underlying50, rfl, h1, h2⟩
  · cases h; obtain ⟨i, h1, h2⟩ := info_three info51; exact ⟨_, i, Tryd.underlying51, rfl, h1, h2⟩
  · cases h; obtain ⟨i, h1, h2⟩ := info_three info52; exact ⟨_, i, Tryd.underlying52, rfl, h1, h2⟩
  · cases h; obtain ⟨i, h1, h2⟩ := info_three info53; exact ⟨_, i, Tryd.underlying53, rfl, h1, h2⟩
  · cases h; obtain ⟨i, h1, h2⟩ := info_three info55; exact ⟨_, i, Tryd.underlying55, rfl, h1, h2⟩
  · cases h; obtain ⟨i, h1, h2⟩ := info_three info56; exact ⟨_, i, Tryd.underlying56, rfl, h1, h2⟩
  · cases h; obtain ⟨i, h1, h2⟩ := info_three info57; exact ⟨_, i, Tryd.underlying57, rfl, h1, h2⟩
  · cases h; obtain ⟨i, h1, h2⟩ := info_three info58; exact ⟨_, i, Tryd.underlying58, rfl, h1, h2⟩
  · cases h; obtain ⟨i, h1, h2⟩ := info_three info59; exact ⟨_, i, Tryd.underlying59, rfl, h1, h2⟩
  · cases h; obtain ⟨i, h1, h2⟩ := info_three info60; exact ⟨_, i, Tryd.underlying60, rfl, h1, h2⟩
  · cases h; obtain ⟨i, h1, h2⟩ := info_three info61; exact ⟨_, i, Tryd.underlying61, rfl, h1, h2⟩
  · cases h; obtain ⟨i, h1, h2⟩ := info_three info62; exact ⟨_, i, Tryd.underlying62, rfl, h1, h2⟩
  · cases h; obtain ⟨i, h1, h2⟩ := info_three info64; exact ⟨_, i, Tryd.underlying64, rfl, h1, h2⟩
  · cases h; obtain ⟨i, h1, h2⟩ := info_three info65; exact ⟨_, i, Tryd.underlying65, rfl, h1, h2⟩
  · cases h; obtain ⟨i, h1, h2⟩ := info_three info66; exact ⟨_, i, Tryd.underlying66, rfl, h1, h2⟩
  · cases h; obtain ⟨i, h1, h2⟩ := info_three info67; exact ⟨_, i, Tryd.underlying67, rfl, h1, h2⟩
  · cases h; obtain ⟨i, h1, h2⟩ := info_three info68; exact ⟨_, i, Tryd.underlying68, rfl, h1, h2⟩
  · cases h; obtain ⟨i, h1, h2⟩ := info_three info69; exact ⟨_, i, Tryd.underlying69, rfl, h1, h2⟩
  · cases h; obtain ⟨i, h1, h2⟩ := info_three info71; exact ⟨_, i, Tryd.underlying71, rfl, h1, h2⟩
  · cases h; obtain ⟨i, h1, h2⟩ := info_three info72; exact ⟨_, i, Tryd.underlying72, rfl, h1, h2⟩
  · cases h; obtain ⟨i, h1, h2⟩ := info_three info73; exact ⟨_, i, Tryd.underlying73, rfl, h1, h2⟩
  · cases h; obtain ⟨i, h1, h2⟩ := info_three info74; exact ⟨_, i, Tryd.underlying74, rfl, h1, h2⟩
  · cases h; obtain ⟨i, h1, h2⟩ := info_three info75; exact ⟨_, i, Tryd.underlying75, rfl, h1, h2⟩
  · cases h; obtain ⟨i, h1, h2⟩ := info_three info76; exact ⟨_, i, Tryd.underlying76, rfl, h1, h2⟩
  · cases h; obtain ⟨i, h1, h2⟩ := info_three info77; exact ⟨_, i, Tryd.underlying77, rfl, h1, h2⟩
  · cases h; obtain ⟨i, h1, h2⟩ := info_three info78; exact ⟨_, i, Tryd.underlying78, rfl, h1, h2⟩
  · cases h; obtain ⟨i, h1, h2⟩ := info_three info79; exact ⟨_, i, Tryd.underlying79, rfl, h1, h2⟩
  · cases h; obtain ⟨i, h1, h2⟩ := info_three info80; exact ⟨_, i, Tryd.underlying80, rfl, h1, h2⟩
  · cases h; obtain ⟨i, h1, h2⟩ := info_three info81; exact ⟨_, i, Tryd.underlying81, rfl, h1, h2⟩
  · cases h; obtain ⟨i, h1, h2⟩ := info_three info82; exact ⟨_, i, Tryd.underlying82, rfl, h1, h2⟩
  · cases h; obtain ⟨i, h1, h2⟩ := info_three info83; exact ⟨_, i, Tryd.underlying83, rfl, h1, h2⟩
  · cases h; obtain ⟨i, h1, h2⟩ := info_three info84; exact ⟨_, i, Tryd.underlying84, rfl, h1, h2⟩
  · cases h; obtain ⟨i, h1, h2⟩ := info_three info85; exact ⟨_, i, Tryd.underlying85, rfl, h1, h2⟩
  · cases h; obtain ⟨i, h1, h2⟩ := info_three info86; exact ⟨_, i, Tryd.underlying86, rfl, h1, h2⟩
  · cases h; obtain ⟨i, h1, h2⟩ := info_three info87; exact ⟨_, i, Tryd.underlying87, rfl, h1, h2⟩
  · cases h; obtain ⟨i, h1, h2⟩ := info_three info88; exact ⟨_, i, Tryd.underlying88, rfl, h1, h2⟩
  · cases h; obtain ⟨i, h1, h2⟩ := info_three info89; exact ⟨_, i, Tryd.underlying89, rfl, h1, h2⟩
  · cases h; obtain ⟨i, h1, h2⟩ := info_three info90; exact ⟨_, i, Tryd.underlying90, rfl, h1, h2⟩
  · cases h; obtain ⟨i, h1, h2⟩ := info_three info91; exact ⟨_, i, Tryd.underlying91, rfl, h1, h2⟩
  · cases h; obtain ⟨i, h1, h2⟩ := info_three info92; exact ⟨_, i, Tryd.underlying92, rfl, h1, h2⟩
  · cases h; obtain ⟨i, h1, h2⟩ := info_three info93; exact ⟨_, i, Tryd.underlying93, rfl, h1, h2⟩
  · cases h; obtain ⟨i, h1, h2⟩ := info_three info94; exact ⟨_, i, Tryd.underlying94, rfl, h1, h2⟩
  · cases h; obtain ⟨i, h1, h2⟩ := info_three info95; exact ⟨_, i, Tryd.underlying95, rfl, h1, h2⟩
  · cases h; obtain ⟨i, h1, h2⟩ := info_three info96; exact ⟨_, i, Tryd.underlying96, rfl, h1, h2⟩
  · cases h; obtain ⟨i, h1, h2⟩ := info_three info97; exact ⟨_, i, Tryd.underlying97, rfl, h1, h2⟩
  · cases h; obtain ⟨i, h1, h2⟩ := info_three info98; exact ⟨_, i, Tryd.underlying98, rfl, h1, h2⟩
  · cases h; obtain ⟨i, h1, h2⟩ := info_three info99; exact ⟨_, i, Tryd.underlying99, rfl, h1, h2⟩
  · cases h; obtain ⟨i, h1, h2⟩ := info_three info100; exact ⟨_, i, Tryd.underlying100, rfl, h1, h2⟩
  · cases h; obtain ⟨i, h1, h2⟩ := info_three info101; exact ⟨_, i, Tryd.underlying101, rfl, h1, h2⟩
  · cases h; obtain ⟨i, h1, h2⟩ := info_three info105; exact ⟨_, i, Tryd.underlying105, rfl, h1, h2⟩
  · cases h; obtain ⟨i, h1, h2⟩ := info_three info106; exact ⟨_, i, Tryd.underlying106, rfl, h1, h2⟩
  · cases h; obtain ⟨i, h1, h2⟩ := info_three info107; exact ⟨_, i, Tryd.underlying107, rfl, h1, h2⟩
  · cases h; obtain ⟨i, h1, h2⟩ := info_three info108; exact ⟨_, i, Tryd.underlying108, rfl, h1, h2⟩
  · cases h; obtain ⟨i, h1, h2⟩ := info_three info109; exact ⟨_, i, Tryd.underlying109, rfl, h1, h2⟩
  · cases h; obtain ⟨i, h1, h2⟩ := info_three info111; exact ⟨_, i, Tryd.underlying111, rfl, h1, h2⟩
  · cases h; obtain ⟨i, h1, h2⟩ := info_three info112; exact ⟨_, i, Tryd.underlying112, rfl, h1, h2⟩
  · cases h; obtain ⟨i, h1, h2⟩ := info_three info113; exact ⟨_, i, Tryd.underlying113, rfl, h1, h2⟩
  · cases h; obtain ⟨i, h1, h2⟩ := info_three info114; exact ⟨_, i, Tryd.underlying114, rfl, h1, h2⟩
  · cases h; obtain ⟨i, h1, h2⟩ := info_three info115; exact ⟨_, i, Tryd.underlying115, rfl, h1, h2⟩
  · cases h; obtain ⟨i, h1, h2⟩ := info_three info116; exact ⟨_, i, Tryd.underlying116, rfl, h1, h2⟩
  · cases h; obtain ⟨i, h1, h2⟩ := info_three info117; exact ⟨_, i, Tryd.underlying117, rfl, h1, h2⟩
  · cases h; obtain ⟨i, h1, h2⟩ := info_three info118; exact ⟨_, i, Tryd.underlying118, rfl, h1, h2⟩
  · cases h; obtain ⟨i, h1, h2⟩ := info_three info119; exact ⟨_, i, Tryd.underlying119, rfl, h1, h2⟩
  · cases h; obtain ⟨i, h1, h2⟩ := info_three info120; exact ⟨_, i, Tryd.underlying120, rfl, h1, h2⟩
  · cases h; obtain ⟨i, h1, h2⟩ := info_three info121; exact ⟨_, i, Tryd.underlying121, rfl, h1, h2⟩
  · cases h; obtain ⟨i, h1, h2⟩ := info_three info122; exact ⟨_, i, Tryd.underlying122, rfl, h1, h2⟩
  · cases h; obtain ⟨i, h1, h2⟩ := info_three info123; exact ⟨_, i, Tryd.underlying123, rfl, h1, h2⟩
  · cases h; obtain ⟨i, h1, h2⟩ := info_three info124; exact ⟨_, i, Tryd.underlying124, rfl, h1, h2⟩
  · cases h; obtain ⟨i, h1, h2⟩ := info_three info126; exact ⟨_, i, Tryd.underlying126, rfl, h1, h2⟩
  · cases h; obtain ⟨i, h1, h2⟩ := info_three info127; exact ⟨_, i, Tryd.underlying127, rfl, h1, h2⟩
  · cases h; obtain ⟨i, h1, h2⟩ := info_three info129; exact ⟨_, i, Tryd.underlying129, rfl, h1, h2⟩
  · cases h; obtain ⟨i, h1, h2⟩ := info_three info131; exact ⟨_, i, Tryd.underlying131, rfl, h1, h2⟩
  · cases h; obtain ⟨i, h1, h2⟩ := info_three info132; exact ⟨_, i, Tryd.underlying132, rfl, h1, h2⟩
  · cases h; obtain ⟨i, h1, h2⟩ := info_three info133; exact ⟨_, i, Tryd.underlying133, rfl, h1, h2⟩
  · cases h; obtain ⟨i, h1, h2⟩ := info_three info135; exact ⟨_, i, Tryd.underlying135, rfl, h1, h2⟩
  · cases h; obtain ⟨i, h1, h2⟩ := info_three info136; exact ⟨_, i, Tryd.underlying136, rfl, h1, h2⟩
  · cases h; obtain ⟨i, h1, h2⟩ := info_three info138; exact ⟨_, i, Tryd.underlying138, rfl, h1, h2⟩
  · cases h; obtain ⟨i, h1, h2⟩ := info_three info139; exact ⟨_, i, Tryd.underlying139, rfl, h1, h2⟩
  · cases h; obtain ⟨i, h1, h2⟩ := info_three info141; exact ⟨_, i, Tryd.underlying141, rfl, h1, h2⟩
  · cases h; obtain ⟨i, h1, h2⟩ := info_three info142; exact ⟨_, i, Tryd.underlying142, rfl, h1, h2⟩
  · cases h; obtain ⟨i, h1, h2⟩ := info_three info143; exact ⟨_, i, Tryd.underlying143, rfl, h1, h2⟩
  · cases h; obtain ⟨i, h1, h2⟩ := info_three info144; exact ⟨_, i, Tryd.underlying144, rfl, h1, h2⟩
  · cases h; obtain ⟨i, h1, h2⟩ := info_three info145; exact ⟨_, i, Tryd.underlying145, rfl, h1, h2⟩
  · cases h; obtain ⟨i, h1, h2⟩ := info_three info146; exact ⟨_, i, Tryd.underlying146, rfl, h1, h2⟩
  · cases h; obtain ⟨i, h1, h2⟩ := info_three info148; exact ⟨_, i, Tryd.underlying148, rfl, h1, h2⟩
  · cases h; obtain ⟨i, h1, h2⟩ := info_three info149; exact ⟨_, i, Tryd.underlying149, rfl, h1, h2⟩
  · cases h; obtain ⟨i, h1, h2⟩ := info_three info150; exact ⟨_, i, Tryd.underlying150, rfl, h1, h2⟩
  · cases h; obtain ⟨i, h1, h2⟩ := info_three info152; exact ⟨_, i, Tryd.underlying152, rfl, h1, h2⟩
  · cases h; obtain ⟨i, h1, h2⟩ := info_three info153; exact ⟨_, i, Tryd.underlying153, rfl, h1, h2⟩
  · cases h; obtain ⟨i, h1, h2⟩ := info_three info154; exact ⟨_, i, Tryd.underlying154, rfl, h1, h2⟩
  · cases h; obtain ⟨i, h1, h2⟩ := info_three info155; exact ⟨_, i, Tryd.underlying155, rfl, h1, h2⟩
  · cases h; obtain ⟨i, h1, h2⟩ := info_three info158; exact ⟨_, i, Tryd.underlying158, rfl, h1, h2⟩
  · cases h; obtain ⟨i, h1, h2⟩ := info_three info159; exact ⟨_, i, Tryd.underlying159, rfl, h1, h2⟩
  · cases h; obtain ⟨i, h1, h2⟩ := info_three info160; exact ⟨_, i, Tryd.underlying160, rfl, h1, h2⟩
  · cases h; obtain ⟨i, h1, h2⟩ := info_three info161; exact ⟨_, i, Tryd.underlying161, rfl, h1, h2⟩
  · cases h; obtain ⟨i, h1, h2⟩ := info_three info162; exact ⟨_, i, Tryd.underlying162, rfl, h1, h2⟩
  · cases h; obtain ⟨i, h1, h2⟩ := info_three info163; exact ⟨_, i, Tryd.underlying163, rfl, h1, h2⟩
  · cases h; obtain ⟨i, h1, h2⟩ := info_three info164; exact ⟨_, i, Tryd.underlying164, rfl, h1, h2⟩
  · cases h; obtain ⟨i, h1, h2⟩ := info_three info165; exact ⟨_, i, Tryd.underlying165, rfl, h1, h2⟩
  · cases h; obtain ⟨i, h1, h2⟩ := info_three info166; exact ⟨_, i, Tryd.underlying166, rfl, h1, h2⟩
  · cases h; obtain ⟨i, h1, h2⟩ := info_three info167; exact ⟨_, i, Tryd.underlying167, rfl, h1, h2⟩
  · cases h; obtain ⟨i, h1, h2⟩ := info_three info168; exact ⟨_, i, Tryd.underlying168, rfl, h1, h2⟩
  · cases h; obtain ⟨i, h1, h2⟩ := info_three info169; exact ⟨_, i, Tryd.underlying169, rfl, h1, h2⟩
  · cases h; obtain ⟨i, h1, h2⟩ := info_three info170; exact ⟨_, i, Tryd.underlying170, rfl, h1, h2⟩
  · cases h; obtain ⟨i, h1, h2⟩ := info_three info172; exact ⟨_, i, Tryd.underlying172, rfl, h1, h2⟩
  · cases h; obtain ⟨i, h1, h2⟩ := info_three info173; exact ⟨_, i, Tryd.underlying173, rfl, h1, h2⟩
  · cases h; obtain ⟨i, h1, h2⟩ := info_three info175; exact ⟨_, i, Tryd.underlying175, rfl, h1, h2⟩
  · cases h; obtain ⟨i, h1, h2⟩ := info_three info176; exact ⟨_, i, Tryd.underlying176, rfl, h1, h2⟩
  · cases h; obtain ⟨i, h1, h2⟩ := info_three info177; exact ⟨_, i, Tryd.underlying177, rfl, h1, h2⟩
  · cases h; obtain ⟨i, h1, h2⟩ := info_three info178; exact ⟨_, i, Tryd.underlying178, rfl, h1, h2⟩
  · cases h; obtain ⟨i, h1, h2⟩ := info_three info180; exact ⟨_, i, Tryd.underlying180, rfl, h1, h2⟩
  · cases h; obtain ⟨i, h1, h2⟩ := info_three info183; exact ⟨_, i, Tryd.underlying183, rfl, h1, h2⟩
  · cases h; obtain ⟨i, h1, h2⟩ := info_three info184; exact ⟨_, i, Tryd.underlying184, rfl, h1, h2⟩
  · cases h; obtain ⟨i, h1, h2⟩ := info_three info188; exact ⟨_, i, Tryd.underlying188, rfl, h1, h2⟩
  · cases h; obtain ⟨i, h1, h2⟩ := info_three info189; exact ⟨_, i, Tryd.underlying189, rfl, h1, h2⟩
  · cases h; obtain ⟨i, h1, h2⟩ := info_three info190; exact ⟨_, i, Tryd.underlying190, rfl, h1, h2⟩
  · cases h; obtain ⟨i, h1, h2⟩ := info_three info191; exact ⟨_, i, Tryd.underlying191, rfl, h1, h2⟩
  · cases h; obtain ⟨i, h1, h2⟩ := info_three info192; exact ⟨_, i, Tryd.underlying192, rfl, h1, h2⟩
  · cases h; obtain ⟨i, h1, h2⟩ := info_three info193; exact ⟨_, i, Tryd.underlying193, rfl, h1, h2⟩
  · cases h; obtain ⟨i, h1, h2⟩ := info_three info194; exact ⟨_, i, Tryd.underlying194, rfl, h1, h2⟩
  · cases h; obtain ⟨i, h1, h2⟩ := info_three info195; exact ⟨_, i, Tryd.underlying195, rfl, h1, h2⟩
  · cases h
theorem env_fld : ∀ t f o, eFld t f = some o → ∃ fs fl i, Tryd.prog.underlying t = some (.struct fs) ∧ fs[f]? = some fl ∧ fl.offset = o ∧ Tryd.prog.info? fl.type = some i ∧ i.size ≠ 0 := by
  intro t f o h
  unfold eFld at h
  split at h
  · cases h; obtain ⟨i, h1, h2⟩ := info_three info24; exact ⟨_, _, i, Tryd.underlying25, rfl, rfl, h1, by rw [h2]; decide⟩
  · cases h; obtain ⟨i, h1, h2⟩ := info_three info24; exact ⟨_, _, i, Tryd.underlying25, rfl, rfl, h1, by rw [h2]; decide⟩
  · cases h; obtain ⟨i, h1, h2⟩ := info_three info24; exact ⟨_, _, i, Tryd.underlying26, rfl, rfl, h1, by rw [h2]; decide⟩
  · cases h; obtain ⟨i, h1, h2⟩ := info_three info24; exact ⟨_, _, i, Tryd.underlying26, rfl, rfl, h1, by rw [h2]; decide⟩
  · cases h; obtain ⟨i, h1, h2⟩ := info_three info41; exact ⟨_, _, i, Tryd.underlying42, rfl, rfl, h1, by rw [h2]; decide⟩
  · cases h; obtain ⟨i, h1, h2⟩ := info_three info41; exact ⟨_, _, i, Tryd.underlying43, rfl, rfl, h1, by rw [h2]; decide⟩
  · cases h; obtain ⟨i, h1, h2⟩ := info_three info2; exact ⟨_, _, i, Tryd.underlying45, rfl, rfl, h1, by rw [h2]; decide⟩
  · cases h; obtain ⟨i, h1, h2⟩ := info_three info2; exact ⟨_, _, i, Tryd.underlying45, rfl, rfl, h1, by rw [h2]; decide⟩
  · cases h; obtain ⟨i, h1, h2⟩ := info_three info2; exact ⟨_, _, i, Tryd.underlying46, rfl, rfl, h1, by rw [h2]; decide⟩
  · cases h; obtain ⟨i, h1, h2⟩ := info_three info2; exact ⟨_, _, i, Tryd.underlying46, rfl, rfl, h1, by rw [h2]; decide⟩
  · cases h; obtain ⟨i, h1, h2⟩ := info_three info22; exact ⟨_, _, i, Tryd.underlying86, rfl, rfl, h1, by rw [h2]; decide⟩
  · cases h; obtain ⟨i, h1, h2⟩ := info_three info3; exact ⟨_, _, i, Tryd.underlying86, rfl, rfl, h1, by rw [h2]; decide⟩
  · cases h; obtain ⟨i, h1, h2⟩ := info_three info85; exact ⟨_, _, i, Tryd.underlying86, rfl, rfl, h1, by rw [h2]; decide⟩
  · cases h; obtain ⟨i, h1, h2⟩ := info_three info22; exact ⟨_, _, i, Tryd.underlying87, rfl, rfl, h1, by rw [h2]; decide⟩
  · cases h; obtain ⟨i, h1, h2⟩ := info_three info3; exact ⟨_, _, i, Tryd.underlying87, rfl, rfl, h1, by rw [h2]; decide⟩
  · cases h; obtain ⟨i, h1, h2⟩ := info_three info85; exact ⟨_, _, i, Tryd.underlying87, rfl, rfl, h1, by rw [h2]; decide⟩
  · cases h
theorem env_zero : ∀ t cs, eZero t = some cs → ∃ i z, Tryd.prog.info? t = some i ∧ i.zero = some z ∧ z.cells.toList = cs := by
  intro t cs h
  unfold eZero at h
  split at h
  · cases h; obtain ⟨i, h1, h2, _⟩ := info_parts info1; exact ⟨i, _, h1, h2, rfl⟩
  · cases h; obtain ⟨i, h1, h2, _⟩ := info_parts info2; exact ⟨i, _, h1, h2, rfl⟩
  · cases h; obtain ⟨i, h1, h2, _⟩ := info_parts info3; exact ⟨i, _, h1, h2, rfl⟩
  · cases h; obtain ⟨i, h1, h2, _⟩ := info_parts info4; exact ⟨i, _, h1, h2, rfl⟩
  · cases h; obtain ⟨i, h1, h2, _⟩ := info_parts info5; exact ⟨i, _, h1, h2, rfl⟩
  · cases h; obtain ⟨i, h1, h2, _⟩ := info_parts info6; exact ⟨i, _, h1, h2, rfl⟩
  · cases h; obtain ⟨i, h1, h2, _⟩ := info_parts info7; exact ⟨i, _, h1, h2, rfl⟩
  · cases h; obtain ⟨i, h1, h2, _⟩ := info_parts info8; exact ⟨i, _, h1, h2, rfl⟩
  · cases h; obtain ⟨i, h1, h2, _⟩ := info_parts info9; exact ⟨i, _, h1, h2, rfl⟩
  · cases h; obtain ⟨i, h1, h2, _⟩ := info_parts info10; exact ⟨i, _, h1, h2, rfl⟩
  · cases h; obtain ⟨i, h1, h2, _⟩ := info_parts info11; exact ⟨i, _, h1, h2, rfl⟩
  · cases h; obtain ⟨i, h1, h2, _⟩ := info_parts info12; exact ⟨i, _, h1, h2, rfl⟩
  · cases h; obtain ⟨i, h1, h2, _⟩ := info_parts info13; exact ⟨i, _, h1, h2, rfl⟩
  · cases h; obtain ⟨i, h1, h2, _⟩ := info_parts info14; exact ⟨i, _, h1, h2, rfl⟩
  · cases h; obtain ⟨i, h1, h2, _⟩ := info_parts info15; exact ⟨i, _, h1, h2, rfl⟩
  · cases h; obtain ⟨i, h1, h2, _⟩ := info_parts info16; exact ⟨i, _, h1, h2, rfl⟩
  · cases h; obtain ⟨i, h1, h2, _⟩ := info_parts info17; exact ⟨i, _, h1, h2, rfl⟩
  · cases h; obtain ⟨i, h1, h2, _⟩ := info_parts info18; exact ⟨i, _, h1, h2, rfl⟩
  · cases h; obtain ⟨i, h1, h2, _⟩ := info_parts info19; exact ⟨i, _, h1, h2, rfl⟩
  · cases h; obtain ⟨i, h1, h2, _⟩ := info_parts info21; exact ⟨i, _, h1, h2, rfl⟩
  · cases h; obtain ⟨i, h1, h2, _⟩ := info_parts info22; exact ⟨i, _, h1, h2, rfl⟩
  · cases h; obtain ⟨i, h1, h2, _⟩ := info_parts info23; exact ⟨i, _, h1, h2, rfl⟩
  · cases h; obtain ⟨i, h1, h2, _⟩ := info_parts info24; exact ⟨i, _, h1, h2, rfl⟩
  · cases h; obtain ⟨i, h1, h2, _⟩ := info_parts info25; exact ⟨i, _, h1, h2, rfl⟩
  · cases h; obtain ⟨i, h1, h2, _⟩ := info_parts info26; exact ⟨i, _, h1, h2, rfl⟩
  · cases h; obtain ⟨i, h1, h2, _⟩ := info_parts info27; exact ⟨i, _, h1, h2, rfl⟩
  · cases h; obtain ⟨i, h1, h2, _⟩ := info_parts info29; exact ⟨i, _, h1, h2, rfl⟩
  · cases h; obtain ⟨i, h1, h2, _⟩ := info_parts info31; exact ⟨i, _, h1, h2, rfl⟩
  · cases h; obtain ⟨i, h1, h2, _⟩ := info_parts info33; exact ⟨i, _, h1, h2, rfl⟩
  · cases h; obtain ⟨i, h1, h2, _⟩ := info_parts info35; exact ⟨i, _, h1, h2, rfl⟩
  · cases h; obtain ⟨i, h1, h2, _⟩ := info_parts info36; exact ⟨i, _, h1, h2, rfl⟩
  · cases h; obtain ⟨i, h1, h2, _⟩ := info_parts info37; exact ⟨i, _, h1, h2, rfl⟩
  · cases h; obtain ⟨i, h1, h2, _⟩ := info_parts info39; exact ⟨i, _, h1, h2, rfl⟩
  · cases h; obtain ⟨i, h1, h2, _⟩ := info_parts info40; exact ⟨i, _, h1, h2, rfl⟩
  · cases h; obtain ⟨i, h1, h2, _⟩ := info_parts info41; exact ⟨i, _, h1, h2, rfl⟩
  · cases h; obtain ⟨i, h1, h2, _⟩ := info_parts info42; exact ⟨i, _, h1, h2, rfl⟩
  · cases h; obtain ⟨i, h1, h2, _⟩ := info_parts info43; exact ⟨i, _, h1, h2, rfl⟩
  · cases h; obtain ⟨i, h1, h2, _⟩ := info_parts info44; exact ⟨i, _, h1, h2, rfl⟩
  · cases h; obtain ⟨i, h1, h2, _⟩ := info_parts info45; exact ⟨i, _, h1, h2, rfl⟩
  · cases h; obtain ⟨i, h1, h2, _⟩ := info_parts info46; exact ⟨i, _, h1, h2, rfl⟩
  · cases h; obtain ⟨i, h1, h2, _⟩ := info_parts info47; exact ⟨i, _, h1, h2, rfl⟩
  · cases h; obtain ⟨i, h1, h2, _⟩ := info_parts info48; exact ⟨i, _, h1, h2, rfl⟩
  · cases h; obtain ⟨i, h1, h2, _⟩ := info_parts info50; exact ⟨i, _, h1, h2, rfl⟩
  · cases h; obtain ⟨i, h1, h2, _⟩ := info_parts info51; exact ⟨i, _, h1, h2, rfl⟩
  · cases h; obtain ⟨i, h1, h2, _⟩ := info_parts info52; exact ⟨i, _, h1, h2, rfl⟩
  · cases h; obtain ⟨i, h1, h2, _⟩ := info_parts info53; exact ⟨i, _, h1, h2, rfl⟩
  · cases h; obtain ⟨i, h1, h2, _⟩ := info_parts info55; exact ⟨i, _, h1, h2, rfl⟩
  · cases h; obtain ⟨i, h1, h2, _⟩ := info_parts info56; exact ⟨i, _, h1, h2, rfl⟩
  · cases h; obtain ⟨i, h1, h2, _⟩ := info_parts info57; exact ⟨i, _, h1, h2, rfl⟩
  · cases h; obtain ⟨i, h1, h2, _⟩ := info_parts info58; exact ⟨i, _, h1, h2, rfl⟩
  · cases h; obtain ⟨i, h1, h2, _⟩ := info_parts info59; exact ⟨i, _, h1, h2, rfl⟩
  · cases h; obtain ⟨i, h1, h2, _⟩ := info_parts info60; exact ⟨i, _, h1, h2, rfl⟩
  · cases h; obtain ⟨i, h1, h2, _⟩ := info_parts info61; exact ⟨i, _, h1, h2, rfl⟩
  · cases h; obtain ⟨i, h1, h2, _⟩ := info_parts info62; exact ⟨i, _, h1, h2, rfl⟩
  · cases h; obtain ⟨i, h1, h2, _⟩ := info_parts info64; exact ⟨i, _, h1, h2, rfl⟩
  · cases h; obtain ⟨i, h1, h2, _⟩ := info_parts info65; exact ⟨i, _, h1, h2, rfl⟩
  · cases h; obtain ⟨i, h1, h2, _⟩ := info_parts info66; exact ⟨i, _, h1, h2, rfl⟩
  · cases h; obtain ⟨i, h1, h2, _⟩ := info_parts info67; exact ⟨i, _, h1, h2, rfl⟩
  · cases h; obtain ⟨i, h1, h2, _⟩ := info_parts info68; exact ⟨i, _, h1, h2, rfl⟩
  · cases h; obtain ⟨i, h1, h2, _⟩ := info_parts info69; exact ⟨i, _, h1, h2, rfl⟩
  · cases h; obtain ⟨i, h1, h2, _⟩ := info_parts info71; exact ⟨i, _, h1, h2, rfl⟩
  · cases h; obtain ⟨i, h1, h2, _⟩ := info_parts info72; exact ⟨i, _, h1, h2, rfl⟩
  · cases h; obtain ⟨i, h1, h2, _⟩ := info_parts info73; exact ⟨i, _, h1, h2, rfl⟩
  · cases h; obtain ⟨i, h1, h2, _⟩ := info_parts info74; exact ⟨i, _, h1, h2, rfl⟩
  · cases h; obtain ⟨i, h1, h2, _⟩ := info_parts info75; exact ⟨i, _, h1, h2, rfl⟩
  · cases h; obtain ⟨i, h1, h2, _⟩ := info_parts info76; exact ⟨i, _, h1, h2, rfl⟩
  · cases h; obtain ⟨i, h1, h2, _⟩ := info_parts info77; exact ⟨i, _, h1, h2, rfl⟩
  · cases h; obtain ⟨i, h1, h2, _⟩ := info_parts info78; exact ⟨i, _, h1, h2, rfl⟩
  · cases h; obtain ⟨i, h1, h2, _⟩ := info_parts info79; exact ⟨i, _, h1, h2, rfl⟩
  · cases h; obtain ⟨i, h1, h2, _⟩ := info_parts info80; exact ⟨i, _, h1, h2, rfl⟩
  · cases h; obtain ⟨i, h1, h2, _⟩ := info_parts info81; exact ⟨i, _, h1, h2, rfl⟩
  · cases h; obtain ⟨i, h1, h2, _⟩ := info_parts info82; exact ⟨i, _, h1, h2, rfl⟩
  · cases h; obtain ⟨i, h1, h2, _⟩ := info_parts info83; exact ⟨i, _, h1, h2, rfl⟩
  · cases h; obtain ⟨i, h1, h2, _⟩ := info_parts info84; exact ⟨i, _, h1, h2, rfl⟩
  · cases h; obtain ⟨i, h1, h2, _⟩ := info_parts info85; exact ⟨i, _, h1, h2, rfl⟩
  · cases h; obtain ⟨i, h1, h2, _⟩ := info_parts info86; exact ⟨i, _, h1, h2, rfl⟩
  · cases h; obtain ⟨i, h1, h2, _⟩ := info_parts info87; exact ⟨i, _, h1, h2, rfl⟩
  · cases h; obtain ⟨i, h1, h2, _⟩ := info_parts info88; exact ⟨i, _, h1, h2, rfl⟩
  · cases h; obtain ⟨i, h1, h2, _⟩ := info_parts info89; exact ⟨i, _, h1, h2, rfl⟩
  · cases h; obtain ⟨i, h1, h2, _⟩ := info_parts info90; exact ⟨i, _, h1, h2, rfl⟩
  · cases h; obtain ⟨i, h1, h2, _⟩ := info_parts info91; exact ⟨i, _, h1, h2, rfl⟩
  · cases h; obtain ⟨i, h1, h2, _⟩ := info_parts info92; exact ⟨i, _, h1, h2, rfl⟩
  · cases h; obtain ⟨i, h1, h2, _⟩ := info_parts info93; exact ⟨i, _, h1, h2, rfl⟩
  · cases h; obtain ⟨i, h1, h2, _⟩ := info_parts info94; exact ⟨i, _, h1, h2, rfl⟩
  · cases h; obtain ⟨i, h1, h2, _⟩ := info_parts info95; exact ⟨i, _, h1, h2, rfl⟩
  · cases h; obtain ⟨i, h1, h2, _⟩ := info_parts info96; exact ⟨i, _, h1, h2, rfl⟩
  · cases h; obtain ⟨i, h1, h2, _⟩ := info_parts info97; exact ⟨i, _, h1, h2, rfl⟩
  · cases h; obtain ⟨i, h1, h2, _⟩ := info_parts info98; exact ⟨i, _, h1, h2, rfl⟩
  · cases h; obtain ⟨i, h1, h2, _⟩ := info_parts info99; exact ⟨i, _, h1, h2, rfl⟩
  · cases h; obtain ⟨i, h1, h2, _⟩ := info_parts info100; exact ⟨i, _, h1, h2, rfl⟩
  · cases h; obtain ⟨i, h1, h2, _⟩ := info_parts info101; exact ⟨i, _, h1, h2, rfl⟩
  · cases h; obtain ⟨i, h1, h2, _⟩ := info_parts info105; exact ⟨i, _, h1, h2, rfl⟩
  · cases h; obtain ⟨i, h1, h2, _⟩ := info_parts info106; exact ⟨i, _, h1, h2, rfl⟩
  · cases h; obtain ⟨i, h1, h2, _⟩ := info_parts info107; exact ⟨i, _, h1, h2, rfl⟩
  · cases h; obtain ⟨i, h1, h2, _⟩ := info_parts info108; exact ⟨i, _, h1, h2, rfl⟩
  · cases h; obtain ⟨i, h1, h2, _⟩ := info_parts info109; exact ⟨i, _, h1, h2, rfl⟩
  · cases h; obtain ⟨i, h1, h2, _⟩ := info_parts info111; exact ⟨i, _, h1, h2, rfl⟩
  · cases h; obtain ⟨i, h1, h2, _⟩ := info_parts info112; exact ⟨i, _, h1, h2, rfl⟩
  · cases h; obtain ⟨i, h1, h2, _⟩ := info_parts info113; exact ⟨i, _, h1, h2, rfl⟩
  · cases h; obtain ⟨i, h1, h2, _⟩ := info_parts info114; exact ⟨i, _, h1, h2, rfl⟩
  · cases h; obtain ⟨i, h1, h2, _⟩ := info_parts info115; exact ⟨i, _, h1, h2, rfl⟩
  · cases h; obtain ⟨i, h1, h2, _⟩ := info_parts info116; exact ⟨i, _, h1, h2, rfl⟩
  · cases h; obtain ⟨i, h1, h2, _⟩ := info_parts info117; exact ⟨i, _, h1, h2, rfl⟩
  · cases h; obtain ⟨i, h1, h2, _⟩ := info_parts info118; exact ⟨i, _, h1, h2, rfl⟩
  · cases h; obtain ⟨i, h1, h2, _⟩ := info_parts info119; exact ⟨i, _, h1, h2, rfl⟩
  · cases h; obtain ⟨i, h1, h2, _⟩ := info_parts info120; exact ⟨i, _, h1, h2, rfl⟩
  · cases h; obtain ⟨i, h1, h2, _⟩ := info_parts info121; exact ⟨i, _, h1, h2, rfl⟩
  · cases h; obtain ⟨i, h1, h2, _⟩ := info_parts info122; exact ⟨i, _, h1, h2, rfl⟩
  · cases h; obtain ⟨i, h1, h2, _⟩ := info_parts info123; exact ⟨i, _, h1, h2, rfl⟩
  · cases h; obtain ⟨i, h1, h2, _⟩ := info_parts info124; exact ⟨i, _, h1, h2, rfl⟩
  · cases h; obtain ⟨i, h1, h2, _⟩ := info_parts info126; exact ⟨i, _, h1, h2, rfl⟩
  · cases h; obtain ⟨i, h1, h2, _⟩ := info_parts info127; exact ⟨i, _, h1, h2, rfl⟩
  · cases h; obtain ⟨i, h1, h2, _⟩ := info_parts info129; exact ⟨i, _, h1, h2, rfl⟩
  · cases h; obtain ⟨i, h1, h2, _⟩ := info_parts info131; exact ⟨i, _, h1, h2, rfl⟩
  · cases h; obtain ⟨i, h1, h2, _⟩ := info_parts info132; exact ⟨i, _, h1, h2, rfl⟩
  · cases h; obtain ⟨i, h1, h2, _⟩ := info_parts info133; exact ⟨i, _, h1, h2, rfl⟩
  · cases h; obtain ⟨i, h1, h2, _⟩ := info_parts info135; exact ⟨i, _, h1, h2, rfl⟩
  · cases h; obtain ⟨i, h1, h2, _⟩ := info_parts info136; exact ⟨i, _, h1, h2, rfl⟩
  · cases h; obtain ⟨i, h1, h2, _⟩ := info_parts info138; exact ⟨i, _, h1, h2, rfl⟩
  · cases h; obtain ⟨i, h1, h2, _⟩ := info_parts info139; exact ⟨i, _, h1, h2, rfl⟩
  · cases h; obtain ⟨i, h1, h2, _⟩ := info_parts info141; exact ⟨i, _, h1, h2, rfl⟩
  · cases h; obtain ⟨i, h1, h2, _⟩ := info_parts info142; exact ⟨i, _, h1, h2, rfl⟩
  · cases h; obtain ⟨i, h1, h2, _⟩ := info_parts info143; exact ⟨i, _, h1, h2, rfl⟩
  · cases h; obtain ⟨i, h1, h2, _⟩ := info_parts info144; exact ⟨i, _, h1, h2, rfl⟩
  · cases h; obtain ⟨i, h1, h2, _⟩ := info_parts info145; exact ⟨i, _, h1, h2, rfl⟩
  · cases h; obtain ⟨i, h1, h2, _⟩ := info_parts info146; exact ⟨i, _, h1, h2, rfl⟩
  · cases h; obtain ⟨i, h1, h2, _⟩ := info_parts info148; exact ⟨i, _, h1, h2, rfl⟩
  · cases h; obtain ⟨i, h1, h2, _⟩ := info_parts info149; exact ⟨i, _, h1, h2, rfl⟩
  · cases h; obtain ⟨i, h1, h2, _⟩ := info_parts info150; exact ⟨i, _, h1, h2, rfl⟩
  · cases h; obtain ⟨i, h1, h2, _⟩ := info_parts info152; exact ⟨i, _, h1, h2, rfl⟩
  · cases h; obtain ⟨i, h1, h2, _⟩ := info_parts info153; exact ⟨i, _, h1, h2, rfl⟩
  · cases h; obtain ⟨i, h1, h2, _⟩ := info_parts info154; exact ⟨i, _, h1, h2, rfl⟩
  · cases h; obtain ⟨i, h1, h2, _⟩ := info_parts info155; exact ⟨i, _, h1, h2, rfl⟩
  · cases h; obtain ⟨i, h1, h2, _⟩ := info_parts info158; exact ⟨i, _, h1, h2, rfl⟩
  · cases h; obtain ⟨i, h1, h2, _⟩ := info_parts info159; exact ⟨i, _, h1, h2, rfl⟩
  · cases h; obtain ⟨i, h1, h2, _⟩ := info_parts info160; exact ⟨i, _, h1, h2, rfl⟩
  · cases h; obtain ⟨i, h1, h2, _⟩ := info_parts info161; exact ⟨i, _, h1, h2, rfl⟩
  · cases h; obtain ⟨i, h1, h2, _⟩ := info_parts info162; exact ⟨i, _, h1, h2, rfl⟩
  · cases h; obtain ⟨i, h1, h2, _⟩ := info_parts info163; exact ⟨i, _, h1, h2, rfl⟩
  · cases h; obtain ⟨i, h1, h2, _⟩ := info_parts info164; exact ⟨i, _, h1, h2, rfl⟩
  · cases h; obtain ⟨i, h1, h2, _⟩ := info_parts info165; exact ⟨i, _, h1, h2, rfl⟩
  · cases h; obtain ⟨i, h1, h2, _⟩ := info_parts info166; exact ⟨i, _, h1, h2, rfl⟩
  · cases h; obtain ⟨i, h1, h2, _⟩ := info_parts info167; exact ⟨i, _, h1, h2, rfl⟩
  · cases h; obtain ⟨i, h1, h2, _⟩ := info_parts info168; exact ⟨i, _, h1, h2, rfl⟩
  · cases h; obtain ⟨i, h1, h2, _⟩ := info_parts info169; exact ⟨i, _, h1, h2, rfl⟩
  · cases h; obtain ⟨i, h1, h2, _⟩ := info_parts info170; exact ⟨i, _, h1, h2, rfl⟩
  · cases h; obtain ⟨i, h1, h2, _⟩ := info_parts info172; exact ⟨i, _, h1, h2, rfl⟩
  · cases h; obtain ⟨i, h1, h2, _⟩ := info_parts info173; exact ⟨i, _, h1, h2, rfl⟩
  · cases h; obtain ⟨i, h1, h2, _⟩ := info_parts info175; exact ⟨i, _, h1, h2, rfl⟩
  · cases h; obtain ⟨i, h1, h2, _⟩ := info_parts info176; exact ⟨i, _, h1, h2, rfl⟩
  · cases h; obtain ⟨i, h1, h2, _⟩ := info_parts info177; exact ⟨i, _, h1, h2, rfl⟩
  · cases h; obtain ⟨i, h1, h2, _⟩ := info_parts info178; exact ⟨i, _, h1, h2, rfl⟩
  · cases h; obtain ⟨i, h1, h2, _⟩ := info_parts info180; exact ⟨i, _, h1, h2, rfl⟩
  · cases h; obtain ⟨i, h1, h2, _⟩ := info_parts info183; exact ⟨i, _, h1, h2, rfl⟩
  · cases h; obtain ⟨i, h1, h2, _⟩ := info_parts info184; exact ⟨i, _, h1, h2, rfl⟩
  · cases h; obtain ⟨i, h1, h2, _⟩ := info_parts info188; exact ⟨i, _, h1, h2, rfl⟩
  · cases h; obtain ⟨i, h1, h2, _⟩ := info_parts info189; exact ⟨i, _, h1, h2, rfl⟩
  · cases h; obtain ⟨i, h1, h2, _⟩ := info_parts info190; exact ⟨i, _, h1, h2, rfl⟩
  · cases h; obtain ⟨i, h1, h2, _⟩ := info_parts info191; exact ⟨i, _, h1, h2, rfl⟩
  · cases h; obtain ⟨i, h1, h2, _⟩ := info_parts info192; exact ⟨i, _, h1, h2, rfl⟩
  · cases h; obtain ⟨i, h1, h2, _⟩ := info_parts info193; exact ⟨i, _, h1, h2, rfl⟩
  · cases h; obtain ⟨i, h1, h2, _⟩ := info_parts info194; exact ⟨i, _, h1, h2, rfl⟩
  · cases h; obtain ⟨i, h1, h2, _⟩ := info_parts info195; exact ⟨i, _, h1, h2, rfl⟩
  · cases h
theorem env_knd : ∀ t d, eKnd t = some d → Tryd.prog.underlying t = some d := by
  intro t d h
  unfold eKnd at h
  split at h
  · cases h; exact Tryd.underlying2
  · cases h; exact Tryd.underlying3
  · cases h; exact Tryd.underlying4
  · cases h; exact Tryd.underlying5
  · cases h; exact Tryd.underlying6
  · cases h; exact Tryd.underlying9
  · cases h; exact Tryd.underlying10
  · cases h; exact Tryd.underlying11
  · cases h; exact Tryd.underlying12
  · cases h; exact Tryd.underlying21
  · cases h; exact Tryd.underlying85
  · cases h; exact Tryd.underlying108
  · cases h; exact Tryd.underlying136
  · cases h; exact Tryd.underlying139
  · cases h; exact Tryd.underlying146
  · cases h; exact Tryd.underlying165
  · cases h; exact Tryd.underlying189
  · cases h; exact Tryd.underlying190
  · cases h; exact Tryd.underlying192
  · cases h; exact Tryd.underlying193
  · cases h
theorem env_bld : ∀ t l, eBld t = some l → ∀ (parts : Array (Nat × Value)) w, ∃ i z, Tryd.prog.info? t = some i ∧ i.zero = some z ∧
    ∀ cells, Instr.fill (fun k => l[k]?) z.cells parts.toList = some cells → (Instr.build t parts).run Tryd.prog w = .ok (.agg cells) w := by
  intro t l h parts w
  unfold eBld at h
  split at h
  · cases h; obtain ⟨i, h1, h2, _⟩ := info_parts info7; exact ⟨i, _, h1, h2, build_run h1 h2 Tryd.underlying7 (fun w => by kernel_rfl) w⟩
  · cases h; obtain ⟨i, h1, h2, _⟩ := info_parts info8; exact ⟨i, _, h1, h2, build_run h1 h2 Tryd.underlying8 (fun w => by kernel_rfl) w⟩
  · cases h; obtain ⟨i, h1, h2, _⟩ := info_parts info13; exact ⟨i, _, h1, h2, build_run h1 h2 Tryd.underlying13 (fun w => by kernel_rfl) w⟩
  · cases h; obtain ⟨i, h1, h2, _⟩ := info_parts info14; exact ⟨i, _, h1, h2, build_run h1 h2 Tryd.underlying14 (fun w => by kernel_rfl) w⟩
  · cases h; obtain ⟨i, h1, h2, _⟩ := info_parts info18; exact ⟨i, _, h1, h2, build_run h1 h2 Tryd.underlying18 (fun w => by kernel_rfl) w⟩
  · cases h; obtain ⟨i, h1, h2, _⟩ := info_parts info19; exact ⟨i, _, h1, h2, build_run h1 h2 Tryd.underlying19 (fun w => by kernel_rfl) w⟩
  · cases h; obtain ⟨i, h1, h2, _⟩ := info_parts info25; exact ⟨i, _, h1, h2, build_run h1 h2 Tryd.underlying25 (fun w => by kernel_rfl) w⟩
  · cases h; obtain ⟨i, h1, h2, _⟩ := info_parts info26; exact ⟨i, _, h1, h2, build_run h1 h2 Tryd.underlying26 (fun w => by kernel_rfl) w⟩
  · cases h; obtain ⟨i, h1, h2, _⟩ := info_parts info42; exact ⟨i, _, h1, h2, build_run h1 h2 Tryd.underlying42 (fun w => by kernel_rfl) w⟩
  · cases h; obtain ⟨i, h1, h2, _⟩ := info_parts info43; exact ⟨i, _, h1, h2, build_run h1 h2 Tryd.underlying43 (fun w => by kernel_rfl) w⟩
  · cases h; obtain ⟨i, h1, h2, _⟩ := info_parts info45; exact ⟨i, _, h1, h2, build_run h1 h2 Tryd.underlying45 (fun w => by kernel_rfl) w⟩
  · cases h; obtain ⟨i, h1, h2, _⟩ := info_parts info46; exact ⟨i, _, h1, h2, build_run h1 h2 Tryd.underlying46 (fun w => by kernel_rfl) w⟩
  · cases h; obtain ⟨i, h1, h2, _⟩ := info_parts info86; exact ⟨i, _, h1, h2, build_run h1 h2 Tryd.underlying86 (fun w => by kernel_rfl) w⟩
  · cases h; obtain ⟨i, h1, h2, _⟩ := info_parts info87; exact ⟨i, _, h1, h2, build_run h1 h2 Tryd.underlying87 (fun w => by kernel_rfl) w⟩
  · cases h; obtain ⟨i, h1, h2, _⟩ := info_parts info99; exact ⟨i, _, h1, h2, build_run h1 h2 Tryd.underlying99 (fun w => by kernel_rfl) w⟩
  · cases h; obtain ⟨i, h1, h2, _⟩ := info_parts info100; exact ⟨i, _, h1, h2, build_run h1 h2 Tryd.underlying100 (fun w => by kernel_rfl) w⟩
  · cases h; obtain ⟨i, h1, h2, _⟩ := info_parts info162; exact ⟨i, _, h1, h2, build_run h1 h2 Tryd.underlying162 (fun w => by kernel_rfl) w⟩
  · cases h; obtain ⟨i, h1, h2, _⟩ := info_parts info163; exact ⟨i, _, h1, h2, build_run h1 h2 Tryd.underlying163 (fun w => by kernel_rfl) w⟩
  · cases h; obtain ⟨i, h1, h2, _⟩ := info_parts info172; exact ⟨i, _, h1, h2, build_run h1 h2 Tryd.underlying172 (fun w => by kernel_rfl) w⟩
  · cases h; obtain ⟨i, h1, h2, _⟩ := info_parts info173; exact ⟨i, _, h1, h2, build_run h1 h2 Tryd.underlying173 (fun w => by kernel_rfl) w⟩
  · cases h; obtain ⟨i, h1, h2, _⟩ := info_parts info176; exact ⟨i, _, h1, h2, build_run h1 h2 Tryd.underlying176 (fun w => by kernel_rfl) w⟩
  · cases h; obtain ⟨i, h1, h2, _⟩ := info_parts info177; exact ⟨i, _, h1, h2, build_run h1 h2 Tryd.underlying177 (fun w => by kernel_rfl) w⟩
  · cases h; obtain ⟨i, h1, h2, _⟩ := info_parts info183; exact ⟨i, _, h1, h2, build_run h1 h2 Tryd.underlying183 (fun w => by kernel_rfl) w⟩
  · cases h; obtain ⟨i, h1, h2, _⟩ := info_parts info184; exact ⟨i, _, h1, h2, build_run h1 h2 Tryd.underlying184 (fun w => by kernel_rfl) w⟩
  · cases h; obtain ⟨i, h1, h2, _⟩ := info_parts info194; exact ⟨i, _, h1, h2, build_run h1 h2 Tryd.underlying194 (fun w => by kernel_rfl) w⟩
  · cases h; obtain ⟨i, h1, h2, _⟩ := info_parts info195; exact ⟨i, _, h1, h2, build_run h1 h2 Tryd.underlying195 (fun w => by kernel_rfl) w⟩
  · cases h
theorem env_pts : ∀ t, ePts t = true → ∀ (a b c d : Int) w, (Op.equal t (.agg #[.int .i64 a, .int .i64 b]) (.agg #[.int .i64 c, .int .i64 d])).run Tryd.prog w = .ok (decide (a = c ∧ b = d)) w ∧
    ∀ x y op, (eqGuard op t x y (.agg #[.int .i64 a, .int .i64 b]) (.agg #[.int .i64 c, .int .i64 d])).run Tryd.prog w = .ok () w := by
  intro t h a b c d w
  unfold ePts at h
  split at h
  · exact pts_run Tryd.underlying45 ⟨rfl, by decide, Tryd.underlying2⟩ ⟨rfl, by decide, Tryd.underlying2⟩ (by kernel_rfl) (by kernel_rfl) a b c d w
  · exact pts_run Tryd.underlying46 ⟨rfl, by decide, Tryd.underlying2⟩ ⟨rfl, by decide, Tryd.underlying2⟩ (by kernel_rfl) (by kernel_rfl) a b c d w
  · cases h
theorem env_mp : ∀ t kk z, eMp t = some (kk, z) → ∃ kt et i, Tryd.prog.underlying t = some (.map kt et) ∧ KeyLaw Tryd.prog kk kt ∧ Tryd.prog.info? et = some i ∧ i.zero = some z := by
  intro t kk z h
  unfold eMp at h
  split at h
  · cases h; obtain ⟨i, h1, h2, _⟩ := info_parts info3; exact ⟨2, 3, i, Tryd.underlying67, (keyLaw_int Tryd.underlying2), h1, h2⟩
  · cases h; obtain ⟨i, h1, h2, _⟩ := info_parts info4; exact ⟨46, 4, i, Tryd.underlying76, (keyLaw_pts Tryd.underlying46 ⟨rfl, by decide, Tryd.underlying2⟩ ⟨rfl, by decide, Tryd.underlying2⟩ (by kernel_rfl) (by kernel_rfl)), h1, h2⟩
  · cases h
theorem env_byt : ∀ t, eByt t = true → ∃ et, Tryd.prog.underlying t = some (.slice et) ∧ Tryd.prog.underlying et = some (.int .u8) := by
  intro t h
  unfold eByt at h
  split at h
  · exact ⟨_, Tryd.underlying22, Tryd.underlying5⟩
  · cases h
theorem env_ifc : ∀ t, eIfc t = true → ∃ ms, Tryd.prog.underlying t = some (.interface ms) := by
  intro t h
  unfold eIfc at h
  split at h
  · exact ⟨_, Tryd.underlying20⟩
  · exact ⟨_, Tryd.underlying102⟩
  · exact ⟨_, Tryd.underlying103⟩
  · cases h
theorem mixed : Tryd.prog.follows .mixedOrders = true := by kernel_rfl
theorem envOk : EnvOk Tryd.prog env := ⟨env_sl, env_var, env_fld, env_zero, env_knd, env_bld, env_pts, env_mp, env_byt, env_ifc⟩
theorem vsl_22 : env.sl 22 = some (.int .u8) := rfl
theorem vsl_24 : env.sl 24 = some (.int .i64) := rfl
theorem vsl_41 : env.sl 41 = some (.sli .i64) := rfl
theorem vsl_48 : env.sl 48 = some (.pt) := rfl
theorem vsl_81 : env.sl 81 = some (.str) := rfl
theorem vkn_22 : env.knd 22 = none := rfl
theorem vkn_24 : env.knd 24 = none := rfl
theorem vkn_41 : env.knd 41 = none := rfl
theorem vkn_48 : env.knd 48 = none := rfl
theorem vkn_81 : env.knd 81 = none := rfl
theorem vvar_1 : env.var 1 = some (false, 1) := rfl
theorem vvar_2 : env.var 2 = some (false, 1) := rfl
theorem vvar_3 : env.var 3 = some (false, 1) := rfl
theorem vvar_4 : env.var 4 = some (false, 1) := rfl
theorem vvar_5 : env.var 5 = some (false, 1) := rfl
theorem vvar_9 : env.var 9 = some (false, 1) := rfl
theorem vvar_22 : env.var 22 = some (false, 1) := rfl
theorem vvar_24 : env.var 24 = some (false, 1) := rfl
theorem vvar_41 : env.var 41 = some (false, 1) := rfl
theorem vvar_43 : env.var 43 = some (true, 1) := rfl
theorem vvar_46 : env.var 46 = some (true, 2) := rfl
theorem vvar_48 : env.var 48 = some (false, 1) := rfl
theorem vvar_57 : env.var 57 = some (false, 1) := rfl
theorem vvar_72 : env.var 72 = some (false, 1) := rfl
theorem vvar_74 : env.var 74 = some (false, 1) := rfl
theorem vvar_76 : env.var 76 = some (false, 1) := rfl
theorem vvar_81 : env.var 81 = some (false, 1) := rfl
theorem vvar_85 : env.var 85 = some (false, 1) := rfl
theorem vvar_87 : env.var 87 = some (true, 3) := rfl
theorem vvar_108 : env.var 108 = some (false, 1) := rfl
theorem vvar_113 : env.var 113 = some (false, 1) := rfl
theorem vvar_146 : env.var 146 = some (false, 1) := rfl
theorem vfld_43_0 : env.fld 43 0 = some 0 := rfl
theorem vfld_46_0 : env.fld 46 0 = some 0 := rfl
theorem vfld_46_1 : env.fld 46 1 = some 1 := rfl
theorem vfld_87_0 : env.fld 87 0 = some 0 := rfl
theorem vfld_87_1 : env.fld 87 1 = some 1 := rfl
theorem vfld_87_2 : env.fld 87 2 = some 2 := rfl
theorem vzero_1 : env.zero 1 = some [.nilFunc] := rfl
theorem vzero_2 : env.zero 2 = some [.int .i64 0] := rfl
theorem vzero_3 : env.zero 3 = some [.int .i64 0] := rfl
theorem vzero_4 : env.zero 4 = some [.bool false] := rfl
theorem vzero_5 : env.zero 5 = some [.int .u8 0] := rfl
theorem vzero_9 : env.zero 9 = some [.string ByteArray.empty] := rfl
theorem vzero_22 : env.zero 22 = some [.slice none 0 0] := rfl
theorem vzero_24 : env.zero 24 = some [.slice none 0 0] := rfl
theorem vzero_41 : env.zero 41 = some [.slice none 0 0] := rfl
theorem vzero_43 : env.zero 43 = some [.slice none 0 0] := rfl
theorem vzero_46 : env.zero 46 = some [.int .i64 0, .int .i64 0] := rfl
theorem vzero_48 : env.zero 48 = some [.slice none 0 0] := rfl
theorem vzero_57 : env.zero 57 = some [.pointer none] := rfl
theorem vzero_72 : env.zero 72 = some [.nilFunc] := rfl
theorem vzero_74 : env.zero 74 = some [.pointer none] := rfl
theorem vzero_76 : env.zero 76 = some [.map none] := rfl
theorem vzero_81 : env.zero 81 = some [.slice none 0 0] := rfl
theorem vzero_85 : env.zero 85 = some [.int .u64 0] := rfl
theorem vzero_87 : env.zero 87 = some [.slice none 0 0, .int .i64 0, .int .u64 0] := rfl
theorem vzero_108 : env.zero 108 = some [.int .u64 0] := rfl
theorem vzero_113 : env.zero 113 = some [.nilFunc] := rfl
theorem vzero_146 : env.zero 146 = some [.int .i64 0] := rfl
theorem vknd_2 : env.knd 2 = some (.int .i64) := rfl
theorem vknd_3 : env.knd 3 = some (.int .i64) := rfl
theorem vknd_4 : env.knd 4 = some (.bool) := rfl
theorem vknd_5 : env.knd 5 = some (.int .u8) := rfl
theorem vknd_9 : env.knd 9 = some (.string) := rfl
theorem vknd_85 : env.knd 85 = some (.int .u64) := rfl
theorem vknd_108 : env.knd 108 = some (.int .u64) := rfl
theorem vknd_146 : env.knd 146 = some (.int .i64) := rfl
theorem vsn_2 : env.sl 2 = none := rfl
theorem vsn_3 : env.sl 3 = none := rfl
theorem vsn_4 : env.sl 4 = none := rfl
theorem vsn_5 : env.sl 5 = none := rfl
theorem vsn_9 : env.sl 9 = none := rfl
theorem vsn_85 : env.sl 85 = none := rfl
theorem vsn_108 : env.sl 108 = none := rfl
theorem vsn_146 : env.sl 146 = none := rfl
theorem vbld_43 : env.bld 43 = some [(0, 1)] := rfl
theorem vbld_46 : env.bld 46 = some [(0, 1), (1, 1)] := rfl
theorem vbld_87 : env.bld 87 = some [(0, 1), (1, 1), (2, 1)] := rfl
theorem vmp_76 : env.mp 76 = some (.pt, .bool false) := rfl
theorem vbyt_22 : env.byt 22 = true := rfl
theorem vpts_46 : env.pts 46 = true := rfl
def eSl2 : TypeId → Option ETy
  | 22 => some (.int .u8)
  | 24 => some (.int .i64)
  | 41 => some (.own .i64)
  | 48 => some (.pt)
  | 81 => some (.str)
  | 154 => some (.int .i64)
  | _ => none
def env2 : Env := { sl := eSl2, var := eVar, fld := eFld, zero := eZero, knd := eKnd, bld := eBld, pts := ePts, mp := eMp, byt := eByt, ifc := eIfc }
theorem env_sl2 : ∀ t e, eSl2 t = some e → ∃ et i z, Tryd.prog.underlying t = some (.slice et) ∧ Tryd.prog.info? et = some i ∧ i.size = e.sz ∧ i.zero = some z ∧ z.cells.size = e.sz ∧ i.bytes ≤ 64 ∧
    ∀ j, j < e.sz → (e.enc e.d).getD j .junk = .v (z.cells.toList.getD j undef) ∨ ∃ e', (e.enc e.d).getD j .junk = .rd e' [] ∧ z.cells.toList.getD j undef = .slice none 0 0 := by
  intro t e h
  unfold eSl2 at h
  split at h
  · cases h; exact env_sl 22 _ rfl
  · cases h; exact env_sl 24 _ rfl
  · cases h; obtain ⟨i, h1, h2, h3, h4⟩ := info_parts info24
    exact ⟨24, i, _, Tryd.underlying41, h1, h3, h2, rfl, by rw [h4]; decide, fun j hj => .inl (by rcases j with _ | j <;> first | rfl | (exact absurd hj (by simp [ETy.sz])))⟩
  · cases h; exact env_sl 48 _ rfl
  · cases h; exact env_sl 81 _ rfl
  · cases h; exact env_sl 154 _ rfl
  · cases h
theorem envOk2 : EnvOk Tryd.prog env2 := ⟨env_sl2, env_var, env_fld, env_zero, env_knd, env_bld, env_pts, env_mp, env_byt, env_ifc⟩
theorem wsl_24 : env2.sl 24 = some (.int .i64) := rfl
theorem wsl_41 : env2.sl 41 = some (.own .i64) := rfl
theorem wsl_81 : env2.sl 81 = some (.str) := rfl
theorem wkn_24 : env2.knd 24 = none := rfl
theorem wkn_41 : env2.knd 41 = none := rfl
theorem wkn_81 : env2.knd 81 = none := rfl
theorem wvar_1 : env2.var 1 = some (false, 1) := rfl
theorem wvar_2 : env2.var 2 = some (false, 1) := rfl
theorem wvar_3 : env2.var 3 = some (false, 1) := rfl
theorem wvar_4 : env2.var 4 = some (false, 1) := rfl
theorem wvar_5 : env2.var 5 = some (false, 1) := rfl
theorem wvar_9 : env2.var 9 = some (false, 1) := rfl
theorem wvar_24 : env2.var 24 = some (false, 1) := rfl
theorem wvar_41 : env2.var 41 = some (false, 1) := rfl
theorem wvar_43 : env2.var 43 = some (true, 1) := rfl
theorem wvar_81 : env2.var 81 = some (false, 1) := rfl
theorem wfld_43_0 : env2.fld 43 0 = some 0 := rfl
theorem wzero_1 : env2.zero 1 = some [.nilFunc] := rfl
theorem wzero_2 : env2.zero 2 = some [.int .i64 0] := rfl
theorem wzero_3 : env2.zero 3 = some [.int .i64 0] := rfl
theorem wzero_4 : env2.zero 4 = some [.bool false] := rfl
theorem wzero_5 : env2.zero 5 = some [.int .u8 0] := rfl
theorem wzero_9 : env2.zero 9 = some [.string ByteArray.empty] := rfl
theorem wzero_24 : env2.zero 24 = some [.slice none 0 0] := rfl
theorem wzero_41 : env2.zero 41 = some [.slice none 0 0] := rfl
theorem wzero_43 : env2.zero 43 = some [.slice none 0 0] := rfl
theorem wzero_81 : env2.zero 81 = some [.slice none 0 0] := rfl
theorem wknd_2 : env2.knd 2 = some (.int .i64) := rfl
theorem wknd_3 : env2.knd 3 = some (.int .i64) := rfl
theorem wknd_4 : env2.knd 4 = some (.bool) := rfl
theorem wknd_5 : env2.knd 5 = some (.int .u8) := rfl
theorem wknd_9 : env2.knd 9 = some (.string) := rfl
theorem wsn_2 : env2.sl 2 = none := rfl
theorem wsn_3 : env2.sl 3 = none := rfl
theorem wsn_4 : env2.sl 4 = none := rfl
theorem wsn_5 : env2.sl 5 = none := rfl
theorem wsn_9 : env2.sl 9 = none := rfl
theorem wbld_43 : env2.bld 43 = some [(0, 1)] := rfl
end Go.Proofs.YtmkcahfhnehanaaDoor
end
section
set_option linter.unusedSimpArgs false
set_option linter.unusedVariables false
namespace Go.Proofs.YtmkcahfhnehanaaDoor
open Go.Eng
abbrev Mz := List (List Int)
abbrev Pt := Int × Int
def width (m : Mz) : Nat := (m.getD 0 []).length
def RowIs (w : Nat) (r : List Int) : Prop := r.length = w ∧ ∀ x, x < r.length → 0 ≤ r.getD x 0 ∧ r.getD x 0 ≤ 9
/-- Is a maze valid? -/
def MzOk (m : Mz) : Prop := (1 ≤ m.length ∧ m.length ≤ 12) ∧ (1 ≤ width m ∧ width m ≤ 12) ∧ ∀ y, y < m.length → RowIs (width m) (m.getD y [])
noncomputable instance (m : Mz) : Decidable (MzOk m) := Classical.propDecidable _
def cell (m : Mz) (p : Pt) : Int := (m.getD p.2.toNat []).getD p.1.toNat 0
def InMz (m : Mz) (p : Pt) : Prop := (0 ≤ p.2 ∧ p.2 ≤ (m.length : Int) - 1) ∧ (0 ≤ p.1 ∧ p.1 ≤ (width m : Int) - 1)
instance (m : Mz) (p : Pt) : Decidable (InMz m p) := by unfold InMz; exact inferInstance
/-- A point of an open cell. -/
def OpenAt (m : Mz) (p : Pt) : Prop := InMz m p ∧ 0 < cell m p
instance (m : Mz) (p : Pt) : Decidable (OpenAt m p) := by unfold OpenAt; exact inferInstance
theorem MzOk.cell {m : Mz} (h : MzOk m) {p : Pt} (hp : InMz m p) : p.2.toNat < m.length ∧ (m.getD p.2.toNat []).length = width m ∧ p.1.toNat < (m.getD p.2.toNat []).length ∧ 0 ≤ cell m p ∧ cell m p ≤ 9 := by
  obtain ⟨h1, h2, h3⟩ := h
  obtain ⟨⟨p1, p2⟩, p3, p4⟩ := hp
  have hy : p.2.toNat < m.length := by omega
  obtain ⟨g1, g2⟩ := h3 _ hy
  have hx : p.1.toNat < (m.getD p.2.toNat []).length := by omega
  exact ⟨hy, g1, hx, g2 _ hx⟩
/-- The neighbour to which a direction leads. -/
def stepTo (p : Pt) (k : Int) : Pt := if k = 0 then (p.1, p.2 - 1) else if k = 1 then (p.1 - 1, p.2) else if k = 2 then (p.1 + 1, p.2) else (p.1, p.2 + 1)
/-- The direction of a letter; -1 of none. -/
def letter (c : Int) : Int := if c = 100 then 0 else if c = 108 then 1 else if c = 114 then 2 else if c = 117 then 3 else -1
end Go.Proofs.YtmkcahfhnehanaaDoor
end
section
set_option linter.unusedSimpArgs false
set_option linter.unusedVariables false
set_option maxHeartbeats 1000000
namespace Go.Proofs.YtmkcahfhnehanaaDoor
open Go.Eng
theorem in39_ac (a b c : Int) (H : List ABox) : AC Tryd.prog 33 [.v (.int .i64 (a)), .v (.int .i64 (b)), .v (.int .i64 (c))] H (fun r H' => r = .v (.bool (decide (b ≤ a ∧ a ≤ c))) ∧ H' = H) := by
  refine AC.enter envOk Tryd.func33 rfl (by decide) Tryd.ntmps33 Tryd.results33 (by simp) fun hB => ?_
  repeat' (first | (with_reducible first | refine AW.sreg envOk fun K hK => ?_ | refine AW.region envOk fun K hK => ?_ | refine vcL_nil ?_) | (with_reducible (first | refine vcL_cons fun K' hK' => ?_); simp only [isC, Bool.false_or, Bool.or_true, ↓reduceDIte, List.take_length, Nat.le_refl, List.drop_zero, vGuard, undef, Bool.not_eq_eq_eq_not, dstOk, vcOp, vcF, isPure, putS, vcCall, St.ev, St.put, lk, AVal.ofVal, initS, Nat.reduceLT, true_and, and_true, vBin, vPick, vPart, vLoad, AVal.flat, AVal.cell, cellsOk, setRange, ETy.enc, ETy.dec, ETy.sz, ETy.d, cond, Nat.reduceBEq, Nat.reduceAdd, Int.toNat_natCast, List.length_set, List.length_append, List.length_replicate, List.length_take, Nat.reduceSub, Nat.reduceEqDiff, get_loc, setBox_loc, next_eq, List.length_cons, List.length_nil, List.map_cons, List.map_nil, List.append_nil, List.nil_append, List.cons_append, List.set_cons_zero, List.set_cons_succ, getD_zero, getD_succ, List.getElem?_cons_succ, List.getElem?_cons_zero, List.take_succ_cons, List.take_zero, List.drop_succ_cons, List.all_cons, List.all_nil, Bool.and_true, Bool.true_and, Option.bind_some, Option.map_some, Option.map_none, decide_eq_true_eq, decide_eq_false_iff_not, ne_eq, Bool.not_eq_true, Bool.not_eq_false, Decidable.not_not, not_true_eq_false, not_false_eq_true, forall_const, false_implies, Bool.true_eq_false, Bool.false_eq_true, reduceCtorEq, decide_true, decide_false, Bool.not_true, Bool.not_false, if_true, if_false, Nat.zero_add, Nat.lt_irrefl, Value.oneCell', gt_iff_lt, Nat.reduceLeDiff, Nat.lt_add_one, vvar_2, vzero_2, vknd_2, vsn_2, vvar_4, vzero_4, vknd_4, vsn_4]; try simp (disch := omega) only [wrap64]) | (with_reducible refine hK' _ ?_; clear hK' K') | (with_reducible refine hK _ ?_; clear hK K) | (with_reducible first | refine And.intro (And.intro rfl rfl) ?_ | refine And.intro (by omega) ?_) | (with_reducible refine And.intro (fun hg => ?_) (fun hg => ?_) <;> first | simp only [eq_false hg, rsB] | simp only [eq_true hg, rsB] | simp only [hg, rsB]) | (with_reducible first | refine And.intro rfl (And.intro rfl rfl) | refine thenQ_n ?_ | refine thenQ_exit ?_ | refine thenQ_ret ?_ | refine midQ_ret ?_ | refine midQ_exit ?_ | refine blockQ_same ?_ | refine blockQ_ne (by decide) ?_ | refine blockQ_ret ?_ | refine blockQ_n ?_ | refine AW.exit ?_ | refine AW.block ?_ | refine AW.cond_t rfl ?_ | refine AW.cond_f rfl ?_ | refine AW.cond_dec rfl (fun hc => ?_) (fun hc => ?_)) | (with_reducible refine AW.cond rfl (fun hc => ?_) (fun hc => ?_) <;> try simp only [Bool.not_eq_eq_eq_not, Bool.not_true, Bool.not_false, decide_eq_true_eq, decide_eq_false_iff_not] at hc) | (with_reducible first | refine AW.seq ?_ | refine AW.skip ?_ | refine AW.ret ?_ | refine And.intro ?_ ?_) | (with_reducible intro hg; first | simp only [eq_false hg, rsB] | simp only [eq_true hg, rsB]) | (with_reducible refine retQ_drop ?_; simp only [vRes, packRes, vLoad, vPart, lk, cond, Nat.reduceBEq, get_loc, getD_zero, getD_succ, true_and, List.length_cons, List.length_nil, Nat.reduceAdd, Nat.reduceLT, Nat.reduceLeDiff, List.take_succ_cons, List.take_zero, List.drop_succ_cons, List.drop_zero, vvar_2, vzero_2, vknd_2, vsn_2, vvar_4, vzero_4, vknd_4, vsn_4]) )
  all_goals refine ⟨_, _, FinOk.drop hB (Pl.ids (by (repeat' (first | exact Pl.v _ | exact Pl.junk | exact Pl.rd rfl _ | exact pl_nil | refine pl_cons ?_ ?_ | refine Pl.agg ?_ | refine Pl.tup ?_ | refine Pl.rp ?_ | refine Pl.fn ?_)); (first | done | fail))), ?_, rfl⟩
  all_goals refine v_bool ?_
  all_goals grind
theorem in68_ac (a b c : Int) (H : List ABox) : AC Tryd.prog 54 [.v (.int .i64 (a)), .v (.int .i64 (b)), .v (.int .i64 (c))] H (fun r H' => r = .v (.bool (decide (b ≤ a ∧ a ≤ c))) ∧ H' = H) := by
  refine AC.enter envOk Tryd.func54 rfl (by decide) Tryd.ntmps54 Tryd.results54 (by simp) fun hB => ?_
  repeat' (first | (with_reducible first | refine AW.sreg envOk fun K hK => ?_ | refine AW.region envOk fun K hK => ?_ | refine vcL_nil ?_) | (with_reducible (first | refine vcL_cons fun K' hK' => ?_); simp only [isC, Bool.false_or, Bool.or_true, ↓reduceDIte, List.take_length, Nat.le_refl, List.drop_zero, vGuard, undef, Bool.not_eq_eq_eq_not, dstOk, vcOp, vcF, isPure, putS, vcCall, St.ev, St.put, lk, AVal.ofVal, initS, Nat.reduceLT, true_and, and_true, vBin, vPick, vPart, vLoad, AVal.flat, AVal.cell, cellsOk, setRange, ETy.enc, ETy.dec, ETy.sz, ETy.d, cond, Nat.reduceBEq, Nat.reduceAdd, Int.toNat_natCast, List.length_set, List.length_append, List.length_replicate, List.length_take, Nat.reduceSub, Nat.reduceEqDiff, get_loc, setBox_loc, next_eq, List.length_cons, List.length_nil, List.map_cons, List.map_nil, List.append_nil, List.nil_append, List.cons_append, List.set_cons_zero, List.set_cons_succ, getD_zero, getD_succ, List.getElem?_cons_succ, List.getElem?_cons_zero, List.take_succ_cons, List.take_zero, List.drop_succ_cons, List.all_cons, List.all_nil, Bool.and_true, Bool.true_and, Option.bind_some, Option.map_some, Option.map_none, decide_eq_true_eq, decide_eq_false_iff_not, ne_eq, Bool.not_eq_true, Bool.not_eq_false, Decidable.not_not, not_true_eq_false, not_false_eq_true, forall_const, false_implies, Bool.true_eq_false, Bool.false_eq_true, reduceCtorEq, decide_true, decide_false, Bool.not_true, Bool.not_false, if_true, if_false, Nat.zero_add, Nat.lt_irrefl, Value.oneCell', gt_iff_lt, Nat.reduceLeDiff, Nat.lt_add_one, vvar_2, vzero_2, vknd_2, vsn_2, vvar_4, vzero_4, vknd_4, vsn_4]; try simp (disch := omega) only [wrap64]) | (with_reducible refine hK' _ ?_; clear hK' K') | (with_reducible refine hK _ ?_; clear hK K) | (with_reducible first | refine And.intro (And.intro rfl rfl) ?_ | refine And.intro (by omega) ?_) | (with_reducible refine And.intro (fun hg => ?_) (fun hg => ?_) <;> first | simp only [eq_false hg, rsB] | simp only [eq_true hg, rsB] | simp only [hg, rsB]) | (with_reducible first | refine And.intro rfl (And.intro rfl rfl) | refine thenQ_n ?_ | refine thenQ_exit ?_ | refine thenQ_ret ?_ | refine midQ_ret ?_ | refine midQ_exit ?_ | refine blockQ_same ?_ | refine blockQ_ne (by decide) ?_ | refine blockQ_ret ?_ | refine blockQ_n ?_ | refine AW.exit ?_ | refine AW.block ?_ | refine AW.cond_t rfl ?_ | refine AW.cond_f rfl ?_ | refine AW.cond_dec rfl (fun hc => ?_) (fun hc => ?_)) | (with_reducible refine AW.cond rfl (fun hc => ?_) (fun hc => ?_) <;> try simp only [Bool.not_eq_eq_eq_not, Bool.not_true, Bool.not_false, decide_eq_true_eq, decide_eq_false_iff_not] at hc) | (with_reducible first | refine AW.seq ?_ | refine AW.skip ?_ | refine AW.ret ?_ | refine And.intro ?_ ?_) | (with_reducible intro hg; first | simp only [eq_false hg, rsB] | simp only [eq_true hg, rsB]) | (with_reducible refine retQ_drop ?_; simp only [vRes, packRes, vLoad, vPart, lk, cond, Nat.reduceBEq, get_loc, getD_zero, getD_succ, true_and, List.length_cons, List.length_nil, Nat.reduceAdd, Nat.reduceLT, Nat.reduceLeDiff, List.take_succ_cons, List.take_zero, List.drop_succ_cons, List.drop_zero, vvar_2, vzero_2, vknd_2, vsn_2, vvar_4, vzero_4, vknd_4, vsn_4]) )
  all_goals refine ⟨_, _, FinOk.drop hB (Pl.ids (by (repeat' (first | exact Pl.v _ | exact Pl.junk | exact Pl.rd rfl _ | exact pl_nil | refine pl_cons ?_ ?_ | refine Pl.agg ?_ | refine Pl.tup ?_ | refine Pl.rp ?_ | refine Pl.fn ?_)); (first | done | fail))), ?_, rfl⟩
  all_goals refine v_bool ?_
  all_goals grind
/-- No list is longer than that. -/
def Fits (n : Nat) (m : Mz) : Prop := m.length ≤ n ∧ ∀ i, (m.getD i []).length ≤ n
theorem getD_none {m : Mz} {y : Nat} (h : ¬ y < m.length) : m.getD y [] = [] := by simp [List.getD, List.getElem?_eq_none (Nat.le_of_not_lt h)]
/-- All prices of a row are prices. -/
def RowG (xs : List Int) : Prop := ∀ x, x < xs.length → 0 ≤ xs.getD x 0 ∧ xs.getD x 0 ≤ 9
instance (xs : List Int) : Decidable (RowG xs) := by unfold RowG; exact inferInstance
theorem not41_ac (n : Int) (H : List ABox) : AC Tryd.prog 58 [.v (.int .i64 (n))] H (fun r H' => r = .v (.bool (!decide (0 ≤ n ∧ n ≤ 9))) ∧ H' = H) := by
  refine AC.enter envOk Tryd.func58 rfl (by decide) Tryd.ntmps58 Tryd.results58 (by simp) fun hB => ?_
  repeat' (first | (with_reducible first | refine AW.sreg envOk fun K hK => ?_ | refine AW.region envOk fun K hK => ?_ | refine vcL_nil ?_) | (with_reducible (first | refine vcL_cons fun K' hK' => ?_); simp only [isC, Bool.false_or, Bool.or_true, ↓reduceDIte, List.take_length, Nat.le_refl, List.drop_zero, vGuard, undef, Bool.not_eq_eq_eq_not, dstOk, vcOp, vcF, isPure, putS, vcCall, St.ev, St.put, lk, AVal.ofVal, initS, Nat.reduceLT, true_and, and_true, vUn, vPart, vLoad, AVal.flat, AVal.cell, cellsOk, setRange, ETy.enc, ETy.dec, ETy.sz, ETy.d, cond, Nat.reduceBEq, Nat.reduceAdd, Int.toNat_natCast, List.length_set, List.length_append, List.length_replicate, List.length_take, Nat.reduceSub, Nat.reduceEqDiff, get_loc, setBox_loc, next_eq, List.length_cons, List.length_nil, List.map_cons, List.map_nil, List.append_nil, List.nil_append, List.cons_append, List.set_cons_zero, List.set_cons_succ, getD_zero, getD_succ, List.getElem?_cons_succ, List.getElem?_cons_zero, List.take_succ_cons, List.take_zero, List.drop_succ_cons, List.all_cons, List.all_nil, Bool.and_true, Bool.true_and, Option.bind_some, Option.map_some, Option.map_none, decide_eq_true_eq, decide_eq_false_iff_not, ne_eq, Bool.not_eq_true, Bool.not_eq_false, Decidable.not_not, not_true_eq_false, not_false_eq_true, forall_const, false_implies, Bool.true_eq_false, Bool.false_eq_true, reduceCtorEq, decide_true, decide_false, Bool.not_true, Bool.not_false, if_true, if_false, Nat.zero_add, Nat.lt_irrefl, Value.oneCell', gt_iff_lt, Nat.reduceLeDiff, Nat.lt_add_one, vvar_2, vzero_2, vknd_2, vsn_2, vvar_4, vzero_4, vknd_4, vsn_4]; try simp (disch := omega) only [wrap64]) | (with_reducible refine hK' _ ?_; clear hK' K') | (with_reducible refine hK _ ?_; clear hK K) | (with_reducible first | refine vCall_pure (in39_ac _ _ _ _) ?_ | refine And.intro (And.intro rfl rfl) ?_ | refine And.intro (by omega) ?_) | (with_reducible refine And.intro (fun hg => ?_) (fun hg => ?_) <;> first | simp only [eq_false hg, rsB] | simp only [eq_true hg, rsB] | simp only [hg, rsB]) | (with_reducible first | refine And.intro rfl (And.intro rfl rfl) | refine thenQ_n ?_ | refine thenQ_exit ?_ | refine thenQ_ret ?_ | refine midQ_ret ?_ | refine midQ_exit ?_ | refine blockQ_same ?_ | refine blockQ_ne (by decide) ?_ | refine blockQ_ret ?_ | refine blockQ_n ?_ | refine AW.exit ?_ | refine AW.block ?_ | refine AW.cond_t rfl ?_ | refine AW.cond_f rfl ?_ | refine AW.cond_dec rfl (fun hc => ?_) (fun hc => ?_)) | (with_reducible refine AW.cond rfl (fun hc => ?_) (fun hc => ?_) <;> try simp only [Bool.not_eq_eq_eq_not, Bool.not_true, Bool.not_false, decide_eq_true_eq, decide_eq_false_iff_not] at hc) | (with_reducible first | refine AW.seq ?_ | refine AW.skip ?_ | refine AW.ret ?_ | refine And.intro ?_ ?_) | (with_reducible intro hg; first | simp only [eq_false hg, rsB] | simp only [eq_true hg, rsB]) | (with_reducible refine retQ_drop ?_; simp only [vRes, packRes, vLoad, vPart, lk, cond, Nat.reduceBEq, get_loc, getD_zero, getD_succ, true_and, List.length_cons, List.length_nil, Nat.reduceAdd, Nat.reduceLT, Nat.reduceLeDiff, List.take_succ_cons, List.take_zero, List.drop_succ_cons, List.drop_zero, vvar_2, vzero_2, vknd_2, vsn_2, vvar_4, vzero_4, vknd_4, vsn_4]) )
  exact ⟨_, _, FinOk.drop hB (Pl.ids (by (repeat' (first | exact Pl.v _ | exact Pl.junk | exact Pl.rd rfl _ | exact pl_nil | refine pl_cons ?_ ?_ | refine Pl.agg ?_ | refine Pl.tup ?_ | refine Pl.rp ?_ | refine Pl.fn ?_)); (first | done | fail))), rfl, rfl⟩
theorem idx70_ac (xs : List Int) (hx : xs.length ≤ 1000000000) (H : List ABox) : AC Tryd.prog 70 [.rd (.int .i64) (xs), .fn 58 []] H (fun r H' => ∃ n : Int, (0 ≤ n ↔ ¬ RowG xs) ∧ r = .v (.int .i64 (n)) ∧ H' = H) := by
  refine AC.enter envOk Tryd.func70 rfl (by decide) Tryd.ntmps70 Tryd.results70 (by simp) fun hB => ?_
  repeat' (first | (with_reducible first | refine AW.sreg envOk fun K hK => ?_ | refine AW.region envOk fun K hK => ?_ | refine vcL_nil ?_) | (with_reducible (first | refine vcL_cons fun K' hK' => ?_); simp only [isC, Bool.false_or, Bool.or_true, ↓reduceDIte, List.take_length, Nat.le_refl, List.drop_zero, vGuard, undef, Bool.not_eq_eq_eq_not, dstOk, vcOp, vcF, isPure, putS, vcCall, St.ev, St.put, lk, AVal.ofVal, initS, Nat.reduceLT, true_and, and_true, vBin, vPart, vLoad, vIdxA, vLen, AVal.flat, AVal.cell, cellsOk, setRange, ETy.enc, ETy.dec, ETy.sz, ETy.d, cond, Nat.reduceBEq, Nat.reduceAdd, Int.toNat_natCast, List.length_set, List.length_append, List.length_replicate, List.length_take, Nat.reduceSub, Nat.reduceEqDiff, get_loc, setBox_loc, next_eq, List.length_cons, List.length_nil, List.map_cons, List.map_nil, List.append_nil, List.nil_append, List.cons_append, List.set_cons_zero, List.set_cons_succ, getD_zero, getD_succ, List.getElem?_cons_succ, List.getElem?_cons_zero, List.take_succ_cons, List.take_zero, List.drop_succ_cons, List.all_cons, List.all_nil, Bool.and_true, Bool.true_and, Option.bind_some, Option.map_some, Option.map_none, decide_eq_true_eq, decide_eq_false_iff_not, ne_eq, Bool.not_eq_true, Bool.not_eq_false, Decidable.not_not, not_true_eq_false, not_false_eq_true, forall_const, false_implies, Bool.true_eq_false, Bool.false_eq_true, reduceCtorEq, decide_true, decide_false, Bool.not_true, Bool.not_false, if_true, if_false, Nat.zero_add, Nat.lt_irrefl, Value.oneCell', gt_iff_lt, Nat.reduceLeDiff, Nat.lt_add_one, vvar_2, vzero_2, vknd_2, vsn_2, vvar_3, vzero_3, vknd_3, vsn_3, vvar_4, vzero_4, vknd_4, vsn_4, vsl_24, vkn_24, vvar_24, vzero_24, vvar_72, vzero_72]; try simp (disch := omega) only [wrap64]) | (with_reducible refine hK' _ ?_; clear hK' K') | (with_reducible refine hK _ ?_; clear hK K) | (with_reducible first | refine And.intro (And.intro rfl rfl) ?_ | refine And.intro (by omega) ?_) | (with_reducible refine And.intro (fun hg => ?_) (fun hg => ?_) <;> first | simp only [eq_false hg, rsB] | simp only [eq_true hg, rsB] | simp only [hg, rsB]) | (with_reducible first | refine And.intro rfl (And.intro rfl rfl) | refine thenQ_n ?_ | refine thenQ_exit ?_ | refine thenQ_ret ?_ | refine midQ_ret ?_ | refine midQ_exit ?_ | refine blockQ_same ?_ | refine blockQ_ne (by decide) ?_ | refine blockQ_ret ?_ | refine blockQ_n ?_ | refine AW.exit ?_ | refine AW.block ?_ | refine AW.cond_t rfl ?_ | refine AW.cond_f rfl ?_ | refine AW.cond_dec rfl (fun hc => ?_) (fun hc => ?_)) | (with_reducible refine AW.cond rfl (fun hc => ?_) (fun hc => ?_) <;> try simp only [Bool.not_eq_eq_eq_not, Bool.not_true, Bool.not_false, decide_eq_true_eq, decide_eq_false_iff_not] at hc) | (with_reducible first | refine AW.seq ?_ | refine AW.skip ?_ | refine AW.ret ?_ | refine And.intro ?_ ?_) | (with_reducible intro hg; first | simp only [eq_false hg, rsB] | simp only [eq_true hg, rsB]) | (with_reducible refine retQ_drop ?_; simp only [vRes, packRes, vLoad, vPart, lk, cond, Nat.reduceBEq, get_loc, getD_zero, getD_succ, true_and, List.length_cons, List.length_nil, Nat.reduceAdd, Nat.reduceLT, Nat.reduceLeDiff, List.take_succ_cons, List.take_zero, List.drop_succ_cons, List.drop_zero, vvar_2, vzero_2, vknd_2, vsn_2, vvar_3, vzero_3, vknd_3, vsn_3, vvar_4, vzero_4, vknd_4, vsn_4, vsl_24, vkn_24, vvar_24, vzero_24, vvar_72, vzero_72]) )
  refine AW.loop (fun i : Nat => (⟨19, [(0, .rd (.int .i64) (xs)), (1, .fn 58 []), (7, .v (.int .i64 ((xs.length : Int)))), (8, .v (.int .i64 ((i : Int))))], H, []⟩ : St)) (fun i => i ≤ xs.length ∧ ∀ j, j < i → 0 ≤ xs.getD j 0 ∧ xs.getD j 0 ≤ 9) (fun i => xs.length - i) 0 ⟨Nat.zero_le _, fun j h => absurd h (by omega)⟩ (Weak.slots (by repeat' first | exact trivial | exact ⟨rfl, trivial⟩ | refine ⟨rfl, ?_⟩)) ?_
  intro i ⟨hi, hI⟩
  repeat' (first | (with_reducible first | refine AW.sreg envOk fun K hK => ?_ | refine AW.region envOk fun K hK => ?_ | refine vcL_nil ?_) | (with_reducible (first | refine vcL_cons fun K' hK' => ?_); simp only [isC, Bool.false_or, Bool.or_true, ↓reduceDIte, List.take_length, Nat.le_refl, List.drop_zero, vGuard, undef, Bool.not_eq_eq_eq_not, dstOk, vcOp, vcF, isPure, putS, vcCall, St.ev, St.put, lk, AVal.ofVal, initS, Nat.reduceLT, true_and, and_true, vBin, vPart, vLoad, vIdxA, vLen, AVal.flat, AVal.cell, cellsOk, setRange, ETy.enc, ETy.dec, ETy.sz, ETy.d, cond, Nat.reduceBEq, Nat.reduceAdd, Int.toNat_natCast, List.length_set, List.length_append, List.length_replicate, List.length_take, Nat.reduceSub, Nat.reduceEqDiff, get_loc, setBox_loc, next_eq, List.length_cons, List.length_nil, List.map_cons, List.map_nil, List.append_nil, List.nil_append, List.cons_append, List.set_cons_zero, List.set_cons_succ, getD_zero, getD_succ, List.getElem?_cons_succ, List.getElem?_cons_zero, List.take_succ_cons, List.take_zero, List.drop_succ_cons, List.all_cons, List.all_nil, Bool.and_true, Bool.true_and, Option.bind_some, Option.map_some, Option.map_none, decide_eq_true_eq, decide_eq_false_iff_not, ne_eq, Bool.not_eq_true, Bool.not_eq_false, Decidable.not_not, not_true_eq_false, not_false_eq_true, forall_const, false_implies, Bool.true_eq_false, Bool.false_eq_true, reduceCtorEq, decide_true, decide_false, Bool.not_true, Bool.not_false, if_true, if_false, Nat.zero_add, Nat.lt_irrefl, Value.oneCell', gt_iff_lt, Nat.reduceLeDiff, Nat.lt_add_one, vvar_2, vzero_2, vknd_2, vsn_2, vvar_3, vzero_3, vknd_3, vsn_3, vvar_4, vzero_4, vknd_4, vsn_4, vsl_24, vkn_24, vvar_24, vzero_24, vvar_72, vzero_72]; try simp (disch := omega) only [wrap64]) | (with_reducible refine hK' _ ?_; clear hK' K') | (with_reducible refine hK _ ?_; clear hK K) | (with_reducible first | refine vCall_pure (not41_ac _ _) ?_ | refine And.intro (And.intro rfl rfl) ?_ | refine And.intro (by omega) ?_) | (with_reducible refine And.intro (fun hg => ?_) (fun hg => ?_) <;> first | simp only [eq_false hg, rsB] | simp only [eq_true hg, rsB] | simp only [hg, rsB]) | (with_reducible first | refine And.intro rfl (And.intro rfl rfl) | refine thenQ_n ?_ | refine thenQ_exit ?_ | refine thenQ_ret ?_ | refine midQ_ret ?_ | refine midQ_exit ?_ | refine blockQ_same ?_ | refine blockQ_ne (by decide) ?_ | refine blockQ_ret ?_ | refine blockQ_n ?_ | refine AW.exit ?_ | refine AW.block ?_ | refine AW.cond_t rfl ?_ | refine AW.cond_f rfl ?_ | refine AW.cond_dec rfl (fun hc => ?_) (fun hc => ?_)) | (with_reducible refine AW.cond rfl (fun hc => ?_) (fun hc => ?_) <;> try simp only [Bool.not_eq_eq_eq_not, Bool.not_true, Bool.not_false, decide_eq_true_eq, decide_eq_false_iff_not] at hc) | (with_reducible first | refine AW.seq ?_ | refine AW.skip ?_ | refine AW.ret ?_ | refine And.intro ?_ ?_) | (with_reducible intro hg; first | simp only [eq_false hg, rsB] | simp only [eq_true hg, rsB]) | (with_reducible refine retQ_drop ?_; simp only [vRes, packRes, vLoad, vPart, lk, cond, Nat.reduceBEq, get_loc, getD_zero, getD_succ, true_and, List.length_cons, List.length_nil, Nat.reduceAdd, Nat.reduceLT, Nat.reduceLeDiff, List.take_succ_cons, List.take_zero, List.drop_succ_cons, List.drop_zero, vvar_2, vzero_2, vknd_2, vsn_2, vvar_3, vzero_3, vknd_3, vsn_3, vvar_4, vzero_4, vknd_4, vsn_4, vsl_24, vkn_24, vvar_24, vzero_24, vvar_72, vzero_72]) )
  · exact ⟨_, _, FinOk.drop hB (.v _), (i : Int), ⟨fun _ h => absurd (h i (by omega)) (by assumption), fun _ => by omega⟩, rfl, rfl⟩
  · refine ⟨i + 1, ⟨by omega, fun j hj => ?_⟩, by omega, (Weak.slots (by repeat' first | exact trivial | exact ⟨rfl, trivial⟩ | refine ⟨rfl, ?_⟩))⟩
    by_cases e : j = i
    · subst e; assumption
    · exact hI j (by omega)
  · exact ⟨_, _, FinOk.drop hB (.v _), (-1 : Int), ⟨fun h => absurd h (by omega), fun h => absurd (fun j hj => hI j (by omega)) h⟩, rfl, rfl⟩
theorem cont40_ac (xs : List Int) (hx : xs.length ≤ 1000000000) (H : List ABox) : AC Tryd.prog 57 [.rd (.int .i64) (xs), .fn 58 []] H (fun r H' => r = .v (.bool (!decide (RowG xs))) ∧ H' = H) := by
  refine AC.enter envOk Tryd.func57 rfl (by decide) Tryd.ntmps57 Tryd.results57 (by simp) fun hB => ?_
  repeat' (first | (with_reducible first | refine AW.sreg envOk fun K hK => ?_ | refine AW.region envOk fun K hK => ?_ | refine vcL_nil ?_) | (with_reducible (first | refine vcL_cons fun K' hK' => ?_); simp only [isC, Bool.false_or, Bool.or_true, ↓reduceDIte, List.take_length, Nat.le_refl, List.drop_zero, vGuard, undef, Bool.not_eq_eq_eq_not, dstOk, vcOp, vcF, isPure, putS, vcCall, St.ev, St.put, lk, AVal.ofVal, initS, Nat.reduceLT, true_and, and_true, vBin, vPart, vLoad, AVal.flat, AVal.cell, cellsOk, setRange, ETy.enc, ETy.dec, ETy.sz, ETy.d, cond, Nat.reduceBEq, Nat.reduceAdd, Int.toNat_natCast, List.length_set, List.length_append, List.length_replicate, List.length_take, Nat.reduceSub, Nat.reduceEqDiff, get_loc, setBox_loc, next_eq, List.length_cons, List.length_nil, List.map_cons, List.map_nil, List.append_nil, List.nil_append, List.cons_append, List.set_cons_zero, List.set_cons_succ, getD_zero, getD_succ, List.getElem?_cons_succ, List.getElem?_cons_zero, List.take_succ_cons, List.take_zero, List.drop_succ_cons, List.all_cons, List.all_nil, Bool.and_true, Bool.true_and, Option.bind_some, Option.map_some, Option.map_none, decide_eq_true_eq, decide_eq_false_iff_not, ne_eq, Bool.not_eq_true, Bool.not_eq_false, Decidable.not_not, not_true_eq_false, not_false_eq_true, forall_const, false_implies, Bool.true_eq_false, Bool.false_eq_true, reduceCtorEq, decide_true, decide_false, Bool.not_true, Bool.not_false, if_true, if_false, Nat.zero_add, Nat.lt_irrefl, Value.oneCell', gt_iff_lt, Nat.reduceLeDiff, Nat.lt_add_one, vvar_3, vzero_3, vknd_3, vsn_3, vvar_4, vzero_4, vknd_4, vsn_4, vsl_24, vkn_24, vvar_24, vzero_24, vvar_72, vzero_72]; try simp (disch := omega) only [wrap64]) | (with_reducible refine hK' _ ?_; clear hK' K') | (with_reducible refine hK _ ?_; clear hK K) | (with_reducible first | refine vCall_ex (idx70_ac xs hx _) (fun n hn => ?_) | refine And.intro (And.intro rfl rfl) ?_ | refine And.intro (by omega) ?_) | (with_reducible refine And.intro (fun hg => ?_) (fun hg => ?_) <;> first | simp only [eq_false hg, rsB] | simp only [eq_true hg, rsB] | simp only [hg, rsB]) | (with_reducible first | refine And.intro rfl (And.intro rfl rfl) | refine thenQ_n ?_ | refine thenQ_exit ?_ | refine thenQ_ret ?_ | refine midQ_ret ?_ | refine midQ_exit ?_ | refine blockQ_same ?_ | refine blockQ_ne (by decide) ?_ | refine blockQ_ret ?_ | refine blockQ_n ?_ | refine AW.exit ?_ | refine AW.block ?_ | refine AW.cond_t rfl ?_ | refine AW.cond_f rfl ?_ | refine AW.cond_dec rfl (fun hc => ?_) (fun hc => ?_)) | (with_reducible refine AW.cond rfl (fun hc => ?_) (fun hc => ?_) <;> try simp only [Bool.not_eq_eq_eq_not, Bool.not_true, Bool.not_false, decide_eq_true_eq, decide_eq_false_iff_not] at hc) | (with_reducible first | refine AW.seq ?_ | refine AW.skip ?_ | refine AW.ret ?_ | refine And.intro ?_ ?_) | (with_reducible intro hg; first | simp only [eq_false hg, rsB] | simp only [eq_true hg, rsB]) | (with_reducible refine retQ_drop ?_; simp only [vRes, packRes, vLoad, vPart, lk, cond, Nat.reduceBEq, get_loc, getD_zero, getD_succ, true_and, List.length_cons, List.length_nil, Nat.reduceAdd, Nat.reduceLT, Nat.reduceLeDiff, List.take_succ_cons, List.take_zero, List.drop_succ_cons, List.drop_zero, vvar_3, vzero_3, vknd_3, vsn_3, vvar_4, vzero_4, vknd_4, vsn_4, vsl_24, vkn_24, vvar_24, vzero_24, vvar_72, vzero_72]) )
  refine ⟨_, _, FinOk.drop hB (Pl.ids (by (repeat' (first | exact Pl.v _ | exact Pl.junk | exact Pl.rd rfl _ | exact pl_nil | refine pl_cons ?_ ?_ | refine Pl.agg ?_ | refine Pl.tup ?_ | refine Pl.rp ?_ | refine Pl.fn ?_)); (first | done | fail))), ?_, rfl⟩
  by_cases h : RowG xs
  · rw [decide_eq_true h, decide_eq_false (fun h' => hn.1 h' h)]; rfl
  · rw [decide_eq_false h, decide_eq_true (hn.2 h)]; rfl
theorem is14_ac (m : Mz) (hm : Fits 1048576 m) (H : List ABox) : AC Tryd.prog 44 [.agg [.rd (.sli .i64) (m)]] H (fun r H' => r = .v (.bool (decide (MzOk m))) ∧ H' = H) := by
  obtain ⟨hm1, hm2⟩ := hm
  have h0 := hm2 0
  refine AC.enter envOk Tryd.func44 rfl (by decide) Tryd.ntmps44 Tryd.results44 (by simp) fun hB => ?_
  repeat' (first | (with_reducible first | refine AW.sreg envOk fun K hK => ?_ | refine AW.region envOk fun K hK => ?_ | refine vcL_nil ?_) | (with_reducible (first | refine vcL_cons fun K' hK' => ?_); simp only [isC, Bool.false_or, Bool.or_true, ↓reduceDIte, List.take_length, Nat.le_refl, List.drop_zero, vGuard, undef, Bool.not_eq_eq_eq_not, dstOk, vcOp, vcF, isPure, putS, vcCall, St.ev, St.put, lk, AVal.ofVal, initS, Nat.reduceLT, true_and, and_true, vBin, vUn, vPick, vPart, vLoad, vIdxA, vFldA, vLen, vBox, partsA, fillA, decAll, AVal.flat, AVal.cell, cellsOk, setRange, ETy.enc, ETy.dec, ETy.sz, ETy.d, cond, Nat.reduceBEq, Nat.reduceAdd, Int.toNat_natCast, List.length_set, List.length_append, List.length_replicate, List.length_take, Nat.reduceSub, Nat.reduceEqDiff, get_loc, setBox_loc, next_eq, List.length_cons, List.length_nil, List.map_cons, List.map_nil, List.append_nil, List.nil_append, List.cons_append, List.set_cons_zero, List.set_cons_succ, getD_zero, getD_succ, List.getElem?_cons_succ, List.getElem?_cons_zero, List.take_succ_cons, List.take_zero, List.drop_succ_cons, List.all_cons, List.all_nil, Bool.and_true, Bool.true_and, Option.bind_some, Option.map_some, Option.map_none, decide_eq_true_eq, decide_eq_false_iff_not, ne_eq, Bool.not_eq_true, Bool.not_eq_false, Decidable.not_not, not_true_eq_false, not_false_eq_true, forall_const, false_implies, Bool.true_eq_false, Bool.false_eq_true, reduceCtorEq, decide_true, decide_false, Bool.not_true, Bool.not_false, if_true, if_false, Nat.zero_add, Nat.lt_irrefl, Value.oneCell', gt_iff_lt, Nat.reduceLeDiff, Nat.lt_add_one, vvar_3, vzero_3, vknd_3, vsn_3, vvar_4, vzero_4, vknd_4, vsn_4, vsl_24, vkn_24, vvar_24, vzero_24, vsl_41, vkn_41, vvar_41, vzero_41, vvar_43, vzero_43, vbld_43, vfld_43_0, Int.toNat_zero, Int.reduceToNat]; try simp (disch := omega) only [wrap64]) | (with_reducible refine hK' _ ?_; clear hK' K') | (with_reducible refine hK _ ?_; clear hK K) | (with_reducible first | refine vCall_pure (in39_ac _ _ _ _) ?_ | refine And.intro (And.intro rfl rfl) ?_ | refine And.intro (by omega) ?_) | (with_reducible refine And.intro (fun hg => ?_) (fun hg => ?_) <;> first | simp only [eq_false hg, rsB] | simp only [eq_true hg, rsB] | simp only [hg, rsB]) | (with_reducible first | refine And.intro rfl (And.intro rfl rfl) | refine thenQ_n ?_ | refine thenQ_exit ?_ | refine thenQ_ret ?_ | refine midQ_ret ?_ | refine midQ_exit ?_ | refine blockQ_same ?_ | refine blockQ_ne (by decide) ?_ | refine blockQ_ret ?_ | refine blockQ_n ?_ | refine AW.exit ?_ | refine AW.block ?_ | refine AW.cond_t rfl ?_ | refine AW.cond_f rfl ?_ | refine AW.cond_dec rfl (fun hc => ?_) (fun hc => ?_)) | (with_reducible refine AW.cond rfl (fun hc => ?_) (fun hc => ?_) <;> try simp only [Bool.not_eq_eq_eq_not, Bool.not_true, Bool.not_false, decide_eq_true_eq, decide_eq_false_iff_not] at hc) | (with_reducible first | refine AW.seq ?_ | refine AW.skip ?_ | refine AW.ret ?_ | refine And.intro ?_ ?_) | (with_reducible intro hg; first | simp only [eq_false hg, rsB] | simp only [eq_true hg, rsB]) | (with_reducible refine retQ_drop ?_; simp only [vRes, packRes, vLoad, vPart, lk, cond, Nat.reduceBEq, get_loc, getD_zero, getD_succ, true_and, List.length_cons, List.length_nil, Nat.reduceAdd, Nat.reduceLT, Nat.reduceLeDiff, List.take_succ_cons, List.take_zero, List.drop_succ_cons, List.drop_zero, vvar_3, vzero_3, vknd_3, vsn_3, vvar_4, vzero_4, vknd_4, vsn_4, vsl_24, vkn_24, vvar_24, vzero_24, vsl_41, vkn_41, vvar_41, vzero_41, vvar_43, vzero_43, vbld_43, vfld_43_0]) )
  all_goals first
    | (refine ⟨_, _, FinOk.drop hB (Pl.ids (by (repeat' (first | exact Pl.v _ | exact Pl.junk | exact Pl.rd rfl _ | exact pl_nil | refine pl_cons ?_ ?_ | refine Pl.agg ?_ | refine Pl.tup ?_ | refine Pl.rp ?_ | refine Pl.fn ?_)); (first | done | fail))), ?_, rfl⟩
       refine v_bool ?_
       simp only [Bool.false_eq_true, false_iff]
       intro h; have h1 := h.1; have h2 := h.2.1; unfold width at h2; omega)
    | skip
  refine AW.loop (fun y : Nat => (⟨39, [(1, .ptr 1 (H.length + 0) 0 0), (20, .rd (.sli .i64) (m)), (21, .v (.int .i64 ((m.length : Int)))), (22, .v (.int .i64 ((y : Int))))], H, [.box false [.rd (.sli .i64) (m)]]⟩ : St)) (fun y => y ≤ m.length ∧ ∀ j, j < y → RowIs (width m) (m.getD j [])) (fun y => m.length - y) 0 ⟨Nat.zero_le _, fun j h => absurd h (by omega)⟩ (Weak.slots (by repeat' first | exact trivial | exact ⟨rfl, trivial⟩ | refine ⟨rfl, ?_⟩)) ?_
  intro y ⟨hy, hY⟩
  have hl := hm2 y
  repeat' (first | (with_reducible first | refine AW.sreg envOk fun K hK => ?_ | refine AW.region envOk fun K hK => ?_ | refine vcL_nil ?_) | (with_reducible (first | refine vcL_cons fun K' hK' => ?_); simp only [isC, Bool.false_or, Bool.or_true, ↓reduceDIte, List.take_length, Nat.le_refl, List.drop_zero, vGuard, undef, Bool.not_eq_eq_eq_not, dstOk, vcOp, vcF, isPure, putS, vcCall, St.ev, St.put, lk, AVal.ofVal, initS, Nat.reduceLT, true_and, and_true, vBin, vUn, vPick, vPart, vLoad, vIdxA, vFldA, vLen, vBox, partsA, fillA, decAll, AVal.flat, AVal.cell, cellsOk, setRange, ETy.enc, ETy.dec, ETy.sz, ETy.d, cond, Nat.reduceBEq, Nat.reduceAdd, Int.toNat_natCast, List.length_set, List.length_append, List.length_replicate, List.length_take, Nat.reduceSub, Nat.reduceEqDiff, get_loc, setBox_loc, next_eq, List.length_cons, List.length_nil, List.map_cons, List.map_nil, List.append_nil, List.nil_append, List.cons_append, List.set_cons_zero, List.set_cons_succ, getD_zero, getD_succ, List.getElem?_cons_succ, List.getElem?_cons_zero, List.take_succ_cons, List.take_zero, List.drop_succ_cons, List.all_cons, List.all_nil, Bool.and_true, Bool.true_and, Option.bind_some, Option.map_some, Option.map_none, decide_eq_true_eq, decide_eq_false_iff_not, ne_eq, Bool.not_eq_true, Bool.not_eq_false, Decidable.not_not, not_true_eq_false, not_false_eq_true, forall_const, false_implies, Bool.true_eq_false, Bool.false_eq_true, reduceCtorEq, decide_true, decide_false, Bool.not_true, Bool.not_false, if_true, if_false, Nat.zero_add, Nat.lt_irrefl, Value.oneCell', gt_iff_lt, Nat.reduceLeDiff, Nat.lt_add_one, vvar_3, vzero_3, vknd_3, vsn_3, vvar_4, vzero_4, vknd_4, vsn_4, vsl_24, vkn_24, vvar_24, vzero_24, vsl_41, vkn_41, vvar_41, vzero_41, vvar_43, vzero_43, vbld_43, vfld_43_0, Int.toNat_zero, Int.reduceToNat]; try simp (disch := omega) only [wrap64]) | (with_reducible refine hK' _ ?_; clear hK' K') | (with_reducible refine hK _ ?_; clear hK K) | (with_reducible first | refine vCall_pure (in39_ac _ _ _ _) ?_ | refine vCall_pure (cont40_ac _ (by omega) _) ?_ | refine And.intro (And.intro rfl rfl) ?_ | refine And.intro (by omega) ?_) | (with_reducible refine And.intro (fun hg => ?_) (fun hg => ?_) <;> first | simp only [eq_false hg, rsB] | simp only [eq_true hg, rsB] | simp only [hg, rsB]) | (with_reducible first | refine And.intro rfl (And.intro rfl rfl) | refine thenQ_n ?_ | refine thenQ_exit ?_ | refine thenQ_ret ?_ | refine midQ_ret ?_ | refine midQ_exit ?_ | refine blockQ_same ?_ | refine blockQ_ne (by decide) ?_ | refine blockQ_ret ?_ | refine blockQ_n ?_ | refine AW.exit ?_ | refine AW.block ?_ | refine AW.cond_t rfl ?_ | refine AW.cond_f rfl ?_ | refine AW.cond_dec rfl (fun hc => ?_) (fun hc => ?_)) | (with_reducible refine AW.cond rfl (fun hc => ?_) (fun hc => ?_) <;> try simp only [Bool.not_eq_eq_eq_not, Bool.not_true, Bool.not_false, decide_eq_true_eq, decide_eq_false_iff_not] at hc) | (with_reducible first | refine AW.seq ?_ | refine AW.skip ?_ | refine AW.ret ?_ | refine And.intro ?_ ?_) | (with_reducible intro hg; first | simp only [eq_false hg, rsB] | simp only [eq_true hg, rsB]) | (with_reducible refine retQ_drop ?_; simp only [vRes, packRes, vLoad, vPart, lk, cond, Nat.reduceBEq, get_loc, getD_zero, getD_succ, true_and, List.length_cons, List.length_nil, Nat.reduceAdd, Nat.reduceLT, Nat.reduceLeDiff, List.take_succ_cons, List.take_zero, List.drop_succ_cons, List.drop_zero, vvar_3, vzero_3, vknd_3, vsn_3, vvar_4, vzero_4, vknd_4, vsn_4, vsl_24, vkn_24, vvar_24, vzero_24, vsl_41, vkn_41, vvar_41, vzero_41, vvar_43, vzero_43, vbld_43, vfld_43_0]) )
  all_goals first
    | (refine ⟨_, _, FinOk.drop hB (Pl.ids (by (repeat' (first | exact Pl.v _ | exact Pl.junk | exact Pl.rd rfl _ | exact pl_nil | refine pl_cons ?_ ?_ | refine Pl.agg ?_ | refine Pl.tup ?_ | refine Pl.rp ?_ | refine Pl.fn ?_)); (first | done | fail))), ?_, rfl⟩
       refine v_bool ?_
       simp only [Bool.false_eq_true, false_iff]
       intro h
       have h1 := h.2.2 y (by omega)
       have h2 := h1.1
       unfold width at h2
       first | omega | exact absurd h1.2 (by assumption))
    | (refine ⟨y + 1, ⟨by omega, fun j hj => ?_⟩, by omega, (Weak.slots (by repeat' first | exact trivial | exact ⟨rfl, trivial⟩ | refine ⟨rfl, ?_⟩))⟩
       by_cases e : j = y
       · subst e
         refine ⟨by unfold width; omega, by assumption⟩
       · exact hY j (by omega))
    | (refine ⟨_, _, FinOk.drop hB (Pl.ids (by (repeat' (first | exact Pl.v _ | exact Pl.junk | exact Pl.rd rfl _ | exact pl_nil | refine pl_cons ?_ ?_ | refine Pl.agg ?_ | refine Pl.tup ?_ | refine Pl.rp ?_ | refine Pl.fn ?_)); (first | done | fail))), ?_, rfl⟩
       refine v_bool ?_
       simp only [true_iff]
       exact ⟨by omega, by unfold width; omega, fun j hj => hY j (by omega)⟩)
theorem Fits.of {m : Mz} (h : m.length ≤ maxLen) (hw : ∀ y ∈ m, (ETy.sli .i64).wf y) : Fits 9223372036854775807 m := ⟨h, fun i => by
  by_cases hi : i < m.length
  · have hmem : m.getD i [] ∈ m := by
      simp only [List.getD, List.getElem?_eq_getElem hi, Option.getD_some]; exact List.getElem_mem hi
    exact (hw _ hmem).1
  · rw [getD_none hi]; simp⟩
end Go.Proofs.YtmkcahfhnehanaaDoor
end
section
set_option linter.unusedSimpArgs false
set_option linter.unusedVariables false
set_option maxHeartbeats 1000000
namespace Go.Proofs.YtmkcahfhnehanaaDoor
open Go.Eng
theorem open55_ac (m : Mz) (p : Pt) (hm : MzOk m) (H : List ABox) : AC Tryd.prog 38 [.rp [.rd (.sli .i64) (m)] 0, .agg [.v (.int .i64 (p).1), .v (.int .i64 (p).2)]] H (fun r H' => r = .v (.bool (decide (OpenAt m p))) ∧ H' = H) := by
  obtain ⟨h1, h2, h3⟩ := hm
  have hr := h3 p.2.toNat
  unfold width RowIs at *
  have hr1 : 0 ≤ p.2 ∧ p.2 ≤ (m.length : Int) - 1 → (m.getD p.2.toNat []).length = (m.getD 0 []).length := fun h => (hr (by omega)).1
  refine AC.enter envOk Tryd.func38 rfl (by decide) Tryd.ntmps38 Tryd.results38 (by simp) fun hB => ?_
  repeat' (first | (with_reducible first | refine AW.sreg envOk fun K hK => ?_ | refine AW.region envOk fun K hK => ?_) | (with_reducible refine AW.d0reg envOk mixed ?_ ?_ fun K hK => ?_; (first | rfl | exact base_len | exact base_len0); kernel_rfl) | (with_reducible refine AW.d0 envOk mixed ?_ ?_ fun K hK => ?_; (first | rfl | exact base_len | exact base_len0); kernel_rfl) | (with_reducible first | refine vcD_nil ?_ | refine vcL_nil ?_) | (with_reducible (first | refine vcD_cons fun K' hK' => ?_ | refine vcL_cons fun K' hK' => ?_); simp only [isC, Bool.false_or, Bool.or_true, ↓reduceDIte, List.take_length, Nat.le_refl, List.drop_zero, vGuard, undef, Bool.not_eq_eq_eq_not, dstOk, vcOp, vcF, isPure, putS, vcCall, St.ev, St.put, lk, AVal.ofVal, initS, Nat.reduceLT, true_and, and_true, vBin, vPick, vPart, vLoad, vIdxA, vFldA, vLen, vNil, vBox, partsA, fillA, decAll, AVal.flat, AVal.cell, cellsOk, setRange, ETy.enc, ETy.dec, ETy.sz, ETy.d, cond, Nat.reduceBEq, Nat.reduceAdd, Int.toNat_natCast, List.length_set, List.length_append, List.length_replicate, List.length_take, Nat.reduceSub, Nat.reduceEqDiff, get_loc, setBox_loc, next_eq, List.length_cons, List.length_nil, List.map_cons, List.map_nil, List.append_nil, List.nil_append, List.cons_append, List.set_cons_zero, List.set_cons_succ, getD_zero, getD_succ, List.getElem?_cons_succ, List.getElem?_cons_zero, List.take_succ_cons, List.take_zero, List.drop_succ_cons, List.all_cons, List.all_nil, Bool.and_true, Bool.true_and, Option.bind_some, Option.map_some, Option.map_none, decide_eq_true_eq, decide_eq_false_iff_not, ne_eq, Bool.not_eq_true, Bool.not_eq_false, Decidable.not_not, not_true_eq_false, not_false_eq_true, forall_const, false_implies, Bool.true_eq_false, Bool.false_eq_true, reduceCtorEq, decide_true, decide_false, Bool.not_true, Bool.not_false, if_true, if_false, Nat.zero_add, Nat.lt_irrefl, Value.oneCell', gt_iff_lt, Nat.reduceLeDiff, Nat.lt_add_one, vvar_2, vzero_2, vknd_2, vsn_2, vvar_3, vzero_3, vknd_3, vsn_3, vvar_4, vzero_4, vknd_4, vsn_4, vsl_24, vkn_24, vvar_24, vzero_24, vsl_41, vkn_41, vvar_41, vzero_41, vvar_43, vzero_43, vbld_43, vvar_46, vzero_46, vbld_46, vpts_46, vvar_74, vzero_74, vfld_43_0, vfld_46_0, vfld_46_1, Int.toNat_zero, Int.reduceToNat]; try simp (disch := omega) only [wrap64]) | (with_reducible refine hK' _ ?_; clear hK' K') | (with_reducible refine hK _ ?_; clear hK K) | (with_reducible first | refine vcC_pure (in68_ac _ _ _ _) ?_ | refine vCall_pure (in68_ac _ _ _ _) ?_ | refine And.intro (And.intro rfl rfl) ?_ | refine And.intro (by omega) ?_) | (with_reducible refine And.intro (fun hg => ?_) (fun hg => ?_) <;> first | simp only [eq_false hg, rsB] | simp only [eq_true hg, rsB] | simp only [hg, rsB]) | (with_reducible first | refine And.intro rfl (And.intro rfl rfl) | refine thenQ_n ?_ | refine thenQ_exit ?_ | refine thenQ_ret ?_ | refine midQ_ret ?_ | refine midQ_exit ?_ | refine blockQ_same ?_ | refine blockQ_ne (by decide) ?_ | refine blockQ_ret ?_ | refine blockQ_n ?_ | refine AW.exit ?_ | refine AW.block ?_ | refine AW.cond_t rfl ?_ | refine AW.cond_f rfl ?_ | refine AW.cond_dec rfl (fun hc => ?_) (fun hc => ?_)) | (with_reducible refine AW.cond rfl (fun hc => ?_) (fun hc => ?_) <;> try simp only [Bool.not_eq_eq_eq_not, Bool.not_true, Bool.not_false, decide_eq_true_eq, decide_eq_false_iff_not] at hc) | (with_reducible first | refine AW.seq ?_ | refine AW.skip ?_ | refine AW.ret ?_ | refine And.intro ?_ ?_) | (with_reducible intro hg; first | simp only [eq_false hg, rsB] | simp only [eq_true hg, rsB]) | (with_reducible refine retQ_drop ?_; simp only [vRes, packRes, vLoad, vPart, lk, cond, Nat.reduceBEq, get_loc, getD_zero, getD_succ, true_and, List.length_cons, List.length_nil, Nat.reduceAdd, Nat.reduceLT, Nat.reduceLeDiff, List.take_succ_cons, List.take_zero, List.drop_succ_cons, List.drop_zero, vvar_2, vzero_2, vknd_2, vsn_2, vvar_3, vzero_3, vknd_3, vsn_3, vvar_4, vzero_4, vknd_4, vsn_4, vsl_24, vkn_24, vvar_24, vzero_24, vsl_41, vkn_41, vvar_41, vzero_41, vvar_43, vzero_43, vbld_43, vvar_46, vzero_46, vbld_46, vpts_46, vvar_74, vzero_74, vfld_43_0, vfld_46_0, vfld_46_1]) )
  all_goals refine ⟨_, _, FinOk.drop hB (Pl.ids (by (repeat' (first | exact Pl.v _ | exact Pl.junk | exact Pl.rd rfl _ | exact pl_nil | refine pl_cons ?_ ?_ | refine Pl.agg ?_ | refine Pl.tup ?_ | refine Pl.rp ?_ | refine Pl.fn ?_)); (first | done | fail))), ?_, rfl⟩
  all_goals refine v_bool ?_
  all_goals first
    | (simp only [Bool.false_eq_true, false_iff]
       intro h
       first | exact absurd h.1.1 (by assumption) | exact absurd h.1.2 (by assumption))
    | (simp only [decide_eq_true_eq]
       exact ⟨fun h => ⟨⟨by assumption, by assumption⟩, h⟩, fun h => h.2⟩)
theorem has59_ac (m : Mz) (p : Pt) (hm : MzOk m) (H : List ABox) : AC Tryd.prog 42 [.rp [.rd (.sli .i64) (m)] 0, .agg [.v (.int .i64 (p).1), .v (.int .i64 (p).2)]] H (fun r H' => r = .v (.bool (decide (InMz m p))) ∧ H' = H) := by
  obtain ⟨h1, h2, h3⟩ := hm
  unfold width at *
  refine AC.enter envOk Tryd.func42 rfl (by decide) Tryd.ntmps42 Tryd.results42 (by simp) fun hB => ?_
  repeat' (first | (with_reducible first | refine AW.sreg envOk fun K hK => ?_ | refine AW.region envOk fun K hK => ?_) | (with_reducible refine AW.d0reg envOk mixed ?_ ?_ fun K hK => ?_; (first | rfl | exact base_len | exact base_len0); kernel_rfl) | (with_reducible refine AW.d0 envOk mixed ?_ ?_ fun K hK => ?_; (first | rfl | exact base_len | exact base_len0); kernel_rfl) | (with_reducible first | refine vcD_nil ?_ | refine vcL_nil ?_) | (with_reducible (first | refine vcD_cons fun K' hK' => ?_ | refine vcL_cons fun K' hK' => ?_); simp only [isC, Bool.false_or, Bool.or_true, ↓reduceDIte, List.take_length, Nat.le_refl, List.drop_zero, vGuard, undef, Bool.not_eq_eq_eq_not, dstOk, vcOp, vcF, isPure, putS, vcCall, St.ev, St.put, lk, AVal.ofVal, initS, Nat.reduceLT, true_and, and_true, vBin, vPick, vPart, vLoad, vIdxA, vFldA, vLen, vNil, vBox, partsA, fillA, decAll, AVal.flat, AVal.cell, cellsOk, setRange, ETy.enc, ETy.dec, ETy.sz, ETy.d, cond, Nat.reduceBEq, Nat.reduceAdd, Int.toNat_natCast, List.length_set, List.length_append, List.length_replicate, List.length_take, Nat.reduceSub, Nat.reduceEqDiff, get_loc, setBox_loc, next_eq, List.length_cons, List.length_nil, List.map_cons, List.map_nil, List.append_nil, List.nil_append, List.cons_append, List.set_cons_zero, List.set_cons_succ, getD_zero, getD_succ, List.getElem?_cons_succ, List.getElem?_cons_zero, List.take_succ_cons, List.take_zero, List.drop_succ_cons, List.all_cons, List.all_nil, Bool.and_true, Bool.true_and, Option.bind_some, Option.map_some, Option.map_none, decide_eq_true_eq, decide_eq_false_iff_not, ne_eq, Bool.not_eq_true, Bool.not_eq_false, Decidable.not_not, not_true_eq_false, not_false_eq_true, forall_const, false_implies, Bool.true_eq_false, Bool.false_eq_true, reduceCtorEq, decide_true, decide_false, Bool.not_true, Bool.not_false, if_true, if_false, Nat.zero_add, Nat.lt_irrefl, Value.oneCell', gt_iff_lt, Nat.reduceLeDiff, Nat.lt_add_one, vvar_2, vzero_2, vknd_2, vsn_2, vvar_3, vzero_3, vknd_3, vsn_3, vvar_4, vzero_4, vknd_4, vsn_4, vsl_24, vkn_24, vvar_24, vzero_24, vsl_41, vkn_41, vvar_41, vzero_41, vvar_43, vzero_43, vbld_43, vvar_46, vzero_46, vbld_46, vpts_46, vvar_74, vzero_74, vfld_43_0, vfld_46_0, vfld_46_1, Int.toNat_zero, Int.reduceToNat]; try simp (disch := omega) only [wrap64]) | (with_reducible refine hK' _ ?_; clear hK' K') | (with_reducible refine hK _ ?_; clear hK K) | (with_reducible first | refine vcC_pure (in39_ac _ _ _ _) ?_ | refine vCall_pure (in39_ac _ _ _ _) ?_ | refine And.intro (And.intro rfl rfl) ?_ | refine And.intro (by omega) ?_) | (with_reducible refine And.intro (fun hg => ?_) (fun hg => ?_) <;> first | simp only [eq_false hg, rsB] | simp only [eq_true hg, rsB] | simp only [hg, rsB]) | (with_reducible first | refine And.intro rfl (And.intro rfl rfl) | refine thenQ_n ?_ | refine thenQ_exit ?_ | refine thenQ_ret ?_ | refine midQ_ret ?_ | refine midQ_exit ?_ | refine blockQ_same ?_ | refine blockQ_ne (by decide) ?_ | refine blockQ_ret ?_ | refine blockQ_n ?_ | refine AW.exit ?_ | refine AW.block ?_ | refine AW.cond_t rfl ?_ | refine AW.cond_f rfl ?_ | refine AW.cond_dec rfl (fun hc => ?_) (fun hc => ?_)) | (with_reducible refine AW.cond rfl (fun hc => ?_) (fun hc => ?_) <;> try simp only [Bool.not_eq_eq_eq_not, Bool.not_true, Bool.not_false, decide_eq_true_eq, decide_eq_false_iff_not] at hc) | (with_reducible first | refine AW.seq ?_ | refine AW.skip ?_ | refine AW.ret ?_ | refine And.intro ?_ ?_) | (with_reducible intro hg; first | simp only [eq_false hg, rsB] | simp only [eq_true hg, rsB]) | (with_reducible refine retQ_drop ?_; simp only [vRes, packRes, vLoad, vPart, lk, cond, Nat.reduceBEq, get_loc, getD_zero, getD_succ, true_and, List.length_cons, List.length_nil, Nat.reduceAdd, Nat.reduceLT, Nat.reduceLeDiff, List.take_succ_cons, List.take_zero, List.drop_succ_cons, List.drop_zero, vvar_2, vzero_2, vknd_2, vsn_2, vvar_3, vzero_3, vknd_3, vsn_3, vvar_4, vzero_4, vknd_4, vsn_4, vsl_24, vkn_24, vvar_24, vzero_24, vsl_41, vkn_41, vvar_41, vzero_41, vvar_43, vzero_43, vbld_43, vvar_46, vzero_46, vbld_46, vpts_46, vvar_74, vzero_74, vfld_43_0, vfld_46_0, vfld_46_1]) )
  all_goals refine ⟨_, _, FinOk.drop hB (Pl.ids (by (repeat' (first | exact Pl.v _ | exact Pl.junk | exact Pl.rd rfl _ | exact pl_nil | refine pl_cons ?_ ?_ | refine Pl.agg ?_ | refine Pl.tup ?_ | refine Pl.rp ?_ | refine Pl.fn ?_)); (first | done | fail))), ?_, rfl⟩
  all_goals refine v_bool ?_
  all_goals first
    | (simp only [Bool.false_eq_true, false_iff]
       intro h
       exact absurd h.1 (by assumption))
    | (simp only [decide_eq_true_eq]
       exact ⟨fun h => ⟨by assumption, h⟩, fun h => h.2⟩)
theorem price49_ac (m : Mz) (p : Pt) (hm : MzOk m) (hp : InMz m p) (H : List ABox) : AC Tryd.prog 56 [.rp [.rd (.sli .i64) (m)] 0, .agg [.v (.int .i64 (p).1), .v (.int .i64 (p).2)]] H (fun r H' => r = .v (.int .i64 (cell m p)) ∧ H' = H) := by
  obtain ⟨g1, g2, g3, g4⟩ := hm.cell hp
  obtain ⟨⟨p1, p2⟩, p3, p4⟩ := hp
  refine AC.enter envOk Tryd.func56 rfl (by decide) Tryd.ntmps56 Tryd.results56 (by simp) fun hB => ?_
  repeat' (first | (with_reducible first | refine AW.sreg envOk fun K hK => ?_ | refine AW.region envOk fun K hK => ?_) | (with_reducible refine AW.d0reg envOk mixed ?_ ?_ fun K hK => ?_; (first | rfl | exact base_len | exact base_len0); kernel_rfl) | (with_reducible refine AW.d0 envOk mixed ?_ ?_ fun K hK => ?_; (first | rfl | exact base_len | exact base_len0); kernel_rfl) | (with_reducible first | refine vcD_nil ?_ | refine vcL_nil ?_) | (with_reducible (first | refine vcD_cons fun K' hK' => ?_ | refine vcL_cons fun K' hK' => ?_); simp only [isC, Bool.false_or, Bool.or_true, ↓reduceDIte, List.take_length, Nat.le_refl, List.drop_zero, vGuard, undef, Bool.not_eq_eq_eq_not, dstOk, vcOp, vcF, isPure, putS, vcCall, St.ev, St.put, lk, AVal.ofVal, initS, Nat.reduceLT, true_and, and_true, vPart, vLoad, vIdxA, vFldA, vNil, vBox, partsA, fillA, decAll, AVal.flat, AVal.cell, cellsOk, setRange, ETy.enc, ETy.dec, ETy.sz, ETy.d, cond, Nat.reduceBEq, Nat.reduceAdd, Int.toNat_natCast, List.length_set, List.length_append, List.length_replicate, List.length_take, Nat.reduceSub, Nat.reduceEqDiff, get_loc, setBox_loc, next_eq, List.length_cons, List.length_nil, List.map_cons, List.map_nil, List.append_nil, List.nil_append, List.cons_append, List.set_cons_zero, List.set_cons_succ, getD_zero, getD_succ, List.getElem?_cons_succ, List.getElem?_cons_zero, List.take_succ_cons, List.take_zero, List.drop_succ_cons, List.all_cons, List.all_nil, Bool.and_true, Bool.true_and, Option.bind_some, Option.map_some, Option.map_none, decide_eq_true_eq, decide_eq_false_iff_not, ne_eq, Bool.not_eq_true, Bool.not_eq_false, Decidable.not_not, not_true_eq_false, not_false_eq_true, forall_const, false_implies, Bool.true_eq_false, Bool.false_eq_true, reduceCtorEq, decide_true, decide_false, Bool.not_true, Bool.not_false, if_true, if_false, Nat.zero_add, Nat.lt_irrefl, Value.oneCell', gt_iff_lt, Nat.reduceLeDiff, Nat.lt_add_one, vvar_2, vzero_2, vknd_2, vsn_2, vsl_24, vkn_24, vvar_24, vzero_24, vsl_41, vkn_41, vvar_41, vzero_41, vvar_43, vzero_43, vbld_43, vvar_46, vzero_46, vbld_46, vpts_46, vvar_74, vzero_74, vfld_43_0, vfld_46_0, vfld_46_1]; try simp (disch := omega) only [wrap64]) | (with_reducible refine hK' _ ?_; clear hK' K') | (with_reducible refine hK _ ?_; clear hK K) | (with_reducible first | refine And.intro (And.intro rfl rfl) ?_ | refine And.intro (by omega) ?_) | (with_reducible refine And.intro (fun hg => ?_) (fun hg => ?_) <;> first | simp only [eq_false hg, rsB] | simp only [eq_true hg, rsB] | simp only [hg, rsB]) | (with_reducible first | refine And.intro rfl (And.intro rfl rfl) | refine thenQ_n ?_ | refine thenQ_exit ?_ | refine thenQ_ret ?_ | refine midQ_ret ?_ | refine midQ_exit ?_ | refine blockQ_same ?_ | refine blockQ_ne (by decide) ?_ | refine blockQ_ret ?_ | refine blockQ_n ?_ | refine AW.exit ?_ | refine AW.block ?_ | refine AW.cond_t rfl ?_ | refine AW.cond_f rfl ?_ | refine AW.cond_dec rfl (fun hc => ?_) (fun hc => ?_)) | (with_reducible refine AW.cond rfl (fun hc => ?_) (fun hc => ?_) <;> try simp only [Bool.not_eq_eq_eq_not, Bool.not_true, Bool.not_false, decide_eq_true_eq, decide_eq_false_iff_not] at hc) | (with_reducible first | refine AW.seq ?_ | refine AW.skip ?_ | refine AW.ret ?_ | refine And.intro ?_ ?_) | (with_reducible intro hg; first | simp only [eq_false hg, rsB] | simp only [eq_true hg, rsB]) | (with_reducible refine retQ_drop ?_; simp only [vRes, packRes, vLoad, vPart, lk, cond, Nat.reduceBEq, get_loc, getD_zero, getD_succ, true_and, List.length_cons, List.length_nil, Nat.reduceAdd, Nat.reduceLT, Nat.reduceLeDiff, List.take_succ_cons, List.take_zero, List.drop_succ_cons, List.drop_zero, vvar_2, vzero_2, vknd_2, vsn_2, vsl_24, vkn_24, vvar_24, vzero_24, vsl_41, vkn_41, vvar_41, vzero_41, vvar_43, vzero_43, vbld_43, vvar_46, vzero_46, vbld_46, vpts_46, vvar_74, vzero_74, vfld_43_0, vfld_46_0, vfld_46_1]) )
  exact ⟨_, _, FinOk.drop hB (Pl.ids (by (repeat' (first | exact Pl.v _ | exact Pl.junk | exact Pl.rd rfl _ | exact pl_nil | refine pl_cons ?_ ?_ | refine Pl.agg ?_ | refine Pl.tup ?_ | refine Pl.rp ?_ | refine Pl.fn ?_)); (first | done | fail))), rfl, rfl⟩
theorem open44_ac (m : Mz) (p : Pt) (hm : MzOk m) (H : List ABox) : AC Tryd.prog 43 [.rp [.rd (.sli .i64) (m)] 0, .agg [.v (.int .i64 (p).1), .v (.int .i64 (p).2)]] H (fun r H' => r = .v (.bool (decide (OpenAt m p))) ∧ H' = H) := by
  have hc : InMz m p → 0 ≤ cell m p := fun h => (hm.cell h).2.2.2.1
  refine AC.enter envOk Tryd.func43 rfl (by decide) Tryd.ntmps43 Tryd.results43 (by simp) fun hB => ?_
  repeat' (first | (with_reducible first | refine AW.sreg envOk fun K hK => ?_ | refine AW.region envOk fun K hK => ?_ | refine vcL_nil ?_) | (with_reducible (first | refine vcL_cons fun K' hK' => ?_); simp only [isC, Bool.false_or, Bool.or_true, ↓reduceDIte, List.take_length, Nat.le_refl, List.drop_zero, vGuard, undef, Bool.not_eq_eq_eq_not, dstOk, vcOp, vcF, isPure, putS, vcCall, St.ev, St.put, lk, AVal.ofVal, initS, Nat.reduceLT, true_and, and_true, vBin, vPick, vPart, vLoad, vBox, partsA, fillA, decAll, AVal.flat, AVal.cell, cellsOk, setRange, ETy.enc, ETy.dec, ETy.sz, ETy.d, cond, Nat.reduceBEq, Nat.reduceAdd, Int.toNat_natCast, List.length_set, List.length_append, List.length_replicate, List.length_take, Nat.reduceSub, Nat.reduceEqDiff, get_loc, setBox_loc, next_eq, List.length_cons, List.length_nil, List.map_cons, List.map_nil, List.append_nil, List.nil_append, List.cons_append, List.set_cons_zero, List.set_cons_succ, getD_zero, getD_succ, List.getElem?_cons_succ, List.getElem?_cons_zero, List.take_succ_cons, List.take_zero, List.drop_succ_cons, List.all_cons, List.all_nil, Bool.and_true, Bool.true_and, Option.bind_some, Option.map_some, Option.map_none, decide_eq_true_eq, decide_eq_false_iff_not, ne_eq, Bool.not_eq_true, Bool.not_eq_false, Decidable.not_not, not_true_eq_false, not_false_eq_true, forall_const, false_implies, Bool.true_eq_false, Bool.false_eq_true, reduceCtorEq, decide_true, decide_false, Bool.not_true, Bool.not_false, if_true, if_false, Nat.zero_add, Nat.lt_irrefl, Value.oneCell', gt_iff_lt, Nat.reduceLeDiff, Nat.lt_add_one, vvar_2, vzero_2, vknd_2, vsn_2, vvar_4, vzero_4, vknd_4, vsn_4, vvar_46, vzero_46, vbld_46, vpts_46, vvar_74, vzero_74]; try simp (disch := omega) only [wrap64]) | (with_reducible refine hK' _ ?_; clear hK' K') | (with_reducible refine hK _ ?_; clear hK K) | (with_reducible first | refine vCall_pure (has59_ac m p hm _) ?_ | refine vCall_pure (price49_ac m p hm (by assumption) _) ?_ | refine And.intro (And.intro rfl rfl) ?_ | refine And.intro (by omega) ?_) | (with_reducible refine And.intro (fun hg => ?_) (fun hg => ?_) <;> first | simp only [eq_false hg, rsB] | simp only [eq_true hg, rsB] | simp only [hg, rsB]) | (with_reducible first | refine And.intro rfl (And.intro rfl rfl) | refine thenQ_n ?_ | refine thenQ_exit ?_ | refine thenQ_ret ?_ | refine midQ_ret ?_ | refine midQ_exit ?_ | refine blockQ_same ?_ | refine blockQ_ne (by decide) ?_ | refine blockQ_ret ?_ | refine blockQ_n ?_ | refine AW.exit ?_ | refine AW.block ?_ | refine AW.cond_t rfl ?_ | refine AW.cond_f rfl ?_ | refine AW.cond_dec rfl (fun hc => ?_) (fun hc => ?_)) | (with_reducible refine AW.cond rfl (fun hc => ?_) (fun hc => ?_) <;> try simp only [Bool.not_eq_eq_eq_not, Bool.not_true, Bool.not_false, decide_eq_true_eq, decide_eq_false_iff_not] at hc) | (with_reducible first | refine AW.seq ?_ | refine AW.skip ?_ | refine AW.ret ?_ | refine And.intro ?_ ?_) | (with_reducible intro hg; first | simp only [eq_false hg, rsB] | simp only [eq_true hg, rsB]) | (with_reducible refine retQ_drop ?_; simp only [vRes, packRes, vLoad, vPart, lk, cond, Nat.reduceBEq, get_loc, getD_zero, getD_succ, true_and, List.length_cons, List.length_nil, Nat.reduceAdd, Nat.reduceLT, Nat.reduceLeDiff, List.take_succ_cons, List.take_zero, List.drop_succ_cons, List.drop_zero, vvar_2, vzero_2, vknd_2, vsn_2, vvar_4, vzero_4, vknd_4, vsn_4, vvar_46, vzero_46, vbld_46, vpts_46, vvar_74, vzero_74]) )
  all_goals refine ⟨_, _, FinOk.drop hB (Pl.ids (by (repeat' (first | exact Pl.v _ | exact Pl.junk | exact Pl.rd rfl _ | exact pl_nil | refine pl_cons ?_ ?_ | refine Pl.agg ?_ | refine Pl.tup ?_ | refine Pl.rp ?_ | refine Pl.fn ?_)); (first | done | fail))), ?_, rfl⟩
  all_goals refine v_bool ?_
  · have h1 := hc (by assumption)
    simp only [decide_eq_true_eq]
    exact ⟨fun h => ⟨by assumption, by omega⟩, fun h => by have := h.2; omega⟩
  · simp only [Bool.false_eq_true, false_iff]
    exact fun h => absurd h.1 (by assumption)
theorem impl18_ac (m : Mz) (p : Pt) (hm : Fits 1048576 m) (H : List ABox) : AC Tryd.prog 21 [.agg [.rd (.sli .i64) (m)], .agg [.v (.int .i64 (p).1), .v (.int .i64 (p).2)]] H (fun r H' => r = .v (.bool (decide (MzOk m ∧ OpenAt m p))) ∧ H' = H) := by
  refine AC.enter envOk Tryd.func21 rfl (by decide) Tryd.ntmps21 Tryd.results21 (by simp) fun hB => ?_
  repeat' (first | (with_reducible first | refine AW.sreg envOk fun K hK => ?_ | refine AW.region envOk fun K hK => ?_ | refine vcL_nil ?_) | (with_reducible (first | refine vcL_cons fun K' hK' => ?_); simp only [isC, Bool.false_or, Bool.or_true, ↓reduceDIte, List.take_length, Nat.le_refl, List.drop_zero, vGuard, undef, Bool.not_eq_eq_eq_not, dstOk, vcOp, vcF, isPure, putS, vcCall, St.ev, St.put, lk, AVal.ofVal, initS, Nat.reduceLT, true_and, and_true, vPick, vPart, vLoad, vBox, partsA, fillA, decAll, AVal.flat, AVal.cell, cellsOk, setRange, ETy.enc, ETy.dec, ETy.sz, ETy.d, cond, Nat.reduceBEq, Nat.reduceAdd, Int.toNat_natCast, List.length_set, List.length_append, List.length_replicate, List.length_take, Nat.reduceSub, Nat.reduceEqDiff, get_loc, setBox_loc, next_eq, List.length_cons, List.length_nil, List.map_cons, List.map_nil, List.append_nil, List.nil_append, List.cons_append, List.set_cons_zero, List.set_cons_succ, getD_zero, getD_succ, List.getElem?_cons_succ, List.getElem?_cons_zero, List.take_succ_cons, List.take_zero, List.drop_succ_cons, List.all_cons, List.all_nil, Bool.and_true, Bool.true_and, Option.bind_some, Option.map_some, Option.map_none, decide_eq_true_eq, decide_eq_false_iff_not, ne_eq, Bool.not_eq_true, Bool.not_eq_false, Decidable.not_not, not_true_eq_false, not_false_eq_true, forall_const, false_implies, Bool.true_eq_false, Bool.false_eq_true, reduceCtorEq, decide_true, decide_false, Bool.not_true, Bool.not_false, if_true, if_false, Nat.zero_add, Nat.lt_irrefl, Value.oneCell', gt_iff_lt, Nat.reduceLeDiff, Nat.lt_add_one, vvar_4, vzero_4, vknd_4, vsn_4, vvar_43, vzero_43, vbld_43, vvar_46, vzero_46, vbld_46, vpts_46]; try simp (disch := omega) only [wrap64]) | (with_reducible refine hK' _ ?_; clear hK' K') | (with_reducible refine hK _ ?_; clear hK K) | (with_reducible refine vCall_pure (is14_ac m hm _) ?_) | ((with_reducible show vCall _ (AVal.fn 43 _) _ _ _); refine vCall_pure (AC.lent0 (by (repeat' (first | exact trivial | exact LentV.rowL rfl rfl rfl | exact LentV.rowL rfl rfl (by assumption) | refine LentV.boxL rfl ?_ | exact LentV.nil _ | exact LentV.same _ | refine LentV.aggL ?_ | refine And.intro ?_ ?_)); (first | done | fail)) (by (repeat' (first | exact NoRd.v _ | exact NoRd.sl | exact NoRd.mp | exact NoRd.tup nord_nil | refine NoRd.tup ?_ | refine NoRd.agg ?_ | exact nord_nil | refine nord_cons ?_ ?_)); (first | done | fail)) (open44_ac m p (by assumption) _)) ?_) | (with_reducible first | refine And.intro (And.intro rfl rfl) ?_ | refine And.intro (by omega) ?_) | (with_reducible refine And.intro (fun hg => ?_) (fun hg => ?_) <;> first | simp only [eq_false hg, rsB] | simp only [eq_true hg, rsB] | simp only [hg, rsB]) | (with_reducible first | refine And.intro rfl (And.intro rfl rfl) | refine thenQ_n ?_ | refine thenQ_exit ?_ | refine thenQ_ret ?_ | refine midQ_ret ?_ | refine midQ_exit ?_ | refine blockQ_same ?_ | refine blockQ_ne (by decide) ?_ | refine blockQ_ret ?_ | refine blockQ_n ?_ | refine AW.exit ?_ | refine AW.block ?_ | refine AW.cond_t rfl ?_ | refine AW.cond_f rfl ?_ | refine AW.cond_dec rfl (fun hc => ?_) (fun hc => ?_)) | (with_reducible refine AW.cond rfl (fun hc => ?_) (fun hc => ?_) <;> try simp only [Bool.not_eq_eq_eq_not, Bool.not_true, Bool.not_false, decide_eq_true_eq, decide_eq_false_iff_not] at hc) | (with_reducible first | refine AW.seq ?_ | refine AW.skip ?_ | refine AW.ret ?_ | refine And.intro ?_ ?_) | (with_reducible intro hg; first | simp only [eq_false hg, rsB] | simp only [eq_true hg, rsB]) | (with_reducible refine retQ_drop ?_; simp only [vRes, packRes, vLoad, vPart, lk, cond, Nat.reduceBEq, get_loc, getD_zero, getD_succ, true_and, List.length_cons, List.length_nil, Nat.reduceAdd, Nat.reduceLT, Nat.reduceLeDiff, List.take_succ_cons, List.take_zero, List.drop_succ_cons, List.drop_zero, vvar_4, vzero_4, vknd_4, vsn_4, vvar_43, vzero_43, vbld_43, vvar_46, vzero_46, vbld_46, vpts_46]) )
  all_goals refine ⟨_, _, FinOk.drop hB (Pl.ids (by (repeat' (first | exact Pl.v _ | exact Pl.junk | exact Pl.rd rfl _ | exact pl_nil | refine pl_cons ?_ ?_ | refine Pl.agg ?_ | refine Pl.tup ?_ | refine Pl.rp ?_ | refine Pl.fn ?_)); (first | done | fail))), ?_, rfl⟩
  all_goals refine v_bool ?_
  all_goals simp [*]
theorem step58_ac (p : Pt) (k : Int) (h1 : -1000000000 ≤ p.1 ∧ p.1 ≤ 1000000000) (h2 : -1000000000 ≤ p.2 ∧ p.2 ≤ 1000000000) (H : List ABox) : AC Tryd.prog 41 [.agg [.v (.int .i64 (p).1), .v (.int .i64 (p).2)], .v (.int .i64 (k))] H (fun r H' => r = .agg [.v (.int .i64 (stepTo p k).1), .v (.int .i64 (stepTo p k).2)] ∧ H' = H) := by
  refine AC.enter envOk Tryd.func41 rfl (by decide) Tryd.ntmps41 Tryd.results41 (by simp) fun hB => ?_
  repeat' (first | (with_reducible first | refine AW.sreg envOk fun K hK => ?_ | refine AW.region envOk fun K hK => ?_ | refine vcL_nil ?_) | (with_reducible (first | refine vcL_cons fun K' hK' => ?_); simp only [isC, Bool.false_or, Bool.or_true, ↓reduceDIte, List.take_length, Nat.le_refl, List.drop_zero, vGuard, undef, Bool.not_eq_eq_eq_not, dstOk, vcOp, vcF, isPure, putS, vcCall, St.ev, St.put, lk, AVal.ofVal, initS, Nat.reduceLT, true_and, and_true, vBin, vPart, vLoad, vStore, vFldA, vAlloc, vBox, vBuild, partsA, fillA, decAll, AVal.flat, AVal.cell, cellsOk, setRange, ETy.enc, ETy.dec, ETy.sz, ETy.d, cond, Nat.reduceBEq, Nat.reduceAdd, Int.toNat_natCast, List.length_set, List.length_append, List.length_replicate, List.length_take, Nat.reduceSub, Nat.reduceEqDiff, get_loc, setBox_loc, next_eq, List.length_cons, List.length_nil, List.map_cons, List.map_nil, List.append_nil, List.nil_append, List.cons_append, List.set_cons_zero, List.set_cons_succ, getD_zero, getD_succ, List.getElem?_cons_succ, List.getElem?_cons_zero, List.take_succ_cons, List.take_zero, List.drop_succ_cons, List.all_cons, List.all_nil, Bool.and_true, Bool.true_and, Option.bind_some, Option.map_some, Option.map_none, decide_eq_true_eq, decide_eq_false_iff_not, ne_eq, Bool.not_eq_true, Bool.not_eq_false, Decidable.not_not, not_true_eq_false, not_false_eq_true, forall_const, false_implies, Bool.true_eq_false, Bool.false_eq_true, reduceCtorEq, decide_true, decide_false, Bool.not_true, Bool.not_false, if_true, if_false, Nat.zero_add, Nat.lt_irrefl, Value.oneCell', gt_iff_lt, Nat.reduceLeDiff, Nat.lt_add_one, vvar_2, vzero_2, vknd_2, vsn_2, vvar_3, vzero_3, vknd_3, vsn_3, vvar_4, vzero_4, vknd_4, vsn_4, vvar_46, vzero_46, vbld_46, vpts_46, vfld_46_0, vfld_46_1]; try simp (disch := omega) only [wrap64]) | (with_reducible refine hK' _ ?_; clear hK' K') | (with_reducible refine hK _ ?_; clear hK K) | (with_reducible first | refine And.intro (And.intro rfl rfl) ?_ | refine And.intro (by omega) ?_) | (with_reducible refine And.intro (fun hg => ?_) (fun hg => ?_) <;> first | simp only [eq_false hg, rsB] | simp only [eq_true hg, rsB] | simp only [hg, rsB]) | (with_reducible first | refine And.intro rfl (And.intro rfl rfl) | refine thenQ_n ?_ | refine thenQ_exit ?_ | refine thenQ_ret ?_ | refine midQ_ret ?_ | refine midQ_exit ?_ | refine blockQ_same ?_ | refine blockQ_ne (by decide) ?_ | refine blockQ_ret ?_ | refine blockQ_n ?_ | refine AW.exit ?_ | refine AW.block ?_ | refine AW.cond_t rfl ?_ | refine AW.cond_f rfl ?_ | refine AW.cond_dec rfl (fun hc => ?_) (fun hc => ?_)) | (with_reducible refine AW.cond rfl (fun hc => ?_) (fun hc => ?_) <;> try simp only [Bool.not_eq_eq_eq_not, Bool.not_true, Bool.not_false, decide_eq_true_eq, decide_eq_false_iff_not] at hc) | (with_reducible first | refine AW.seq ?_ | refine AW.skip ?_ | refine AW.ret ?_ | refine And.intro ?_ ?_) | (with_reducible intro hg; first | simp only [eq_false hg, rsB] | simp only [eq_true hg, rsB]) | (with_reducible refine retQ_drop ?_; simp only [vRes, packRes, vLoad, vPart, lk, cond, Nat.reduceBEq, get_loc, getD_zero, getD_succ, true_and, List.length_cons, List.length_nil, Nat.reduceAdd, Nat.reduceLT, Nat.reduceLeDiff, List.take_succ_cons, List.take_zero, List.drop_succ_cons, List.drop_zero, vvar_2, vzero_2, vknd_2, vsn_2, vvar_3, vzero_3, vknd_3, vsn_3, vvar_4, vzero_4, vknd_4, vsn_4, vvar_46, vzero_46, vbld_46, vpts_46, vfld_46_0, vfld_46_1]) )
  all_goals refine ⟨_, _, FinOk.drop hB (Pl.ids (by (repeat' (first | exact Pl.v _ | exact Pl.junk | exact Pl.rd rfl _ | exact pl_nil | refine pl_cons ?_ ?_ | refine Pl.agg ?_ | refine Pl.tup ?_ | refine Pl.rp ?_ | refine Pl.fn ?_)); (first | done | fail))), ?_, rfl⟩
  all_goals simp [stepTo, *]
end Go.Proofs.YtmkcahfhnehanaaDoor
end
section
set_option linter.unusedSimpArgs false
set_option linter.unusedVariables false
namespace Go.Proofs.YtmkcahfhnehanaaDoor
open Go.Eng
/-- A way leads there. -/
inductive Reach (m : Mz) (f : Pt) : Pt → Prop where
  | here : Reach m f f
  | step {p : Pt} (h : Reach m f p) (k : Nat) (hk : k < 4) (ho : OpenAt m (stepTo p (k : Int))) : Reach m f (stepTo p (k : Int))
/-- What is known in the midst of a search: which cells are seen, and which of them are still to be looked at. -/
structure Rch (m : Mz) (f : Pt) (S : Pt → Prop) (todo : List Pt) : Prop where
  first : S f
  real : ∀ q, S q → Reach m f q
  opn : ∀ q, S q → OpenAt m q
  sub : ∀ q ∈ todo, S q
  done : ∀ q, S q → ¬ q ∈ todo → ∀ k : Nat, k < 4 → OpenAt m (stepTo q (k : Int)) → S (stepTo q (k : Int))
theorem Rch.start {m : Mz} {f : Pt} (hf : OpenAt m f) : Rch m f (fun q => q = f) [f] :=
  ⟨rfl, fun q h => h ▸ .here, fun q h => h ▸ hf, fun q h => List.mem_singleton.1 h, fun q h hn => absurd (by rw [h]; simp) hn⟩
theorem Rch.add {m : Mz} {f : Pt} {S : Pt → Prop} {todo : List Pt} (h : Rch m f S todo) {t : Pt} (ht : t ∈ todo) {k : Nat} (hk : k < 4) (ho : OpenAt m (stepTo t (k : Int))) : Rch m f (fun q => S q ∨ q = stepTo t (k : Int)) (todo ++ [stepTo t (k : Int)]) := by
  refine ⟨.inl h.first, fun q hq => ?_, fun q hq => ?_, fun q hq => ?_, fun q hq hn j hj hoj => ?_⟩
  · rcases hq with hq | rfl
    · exact h.real q hq
    · exact .step (h.real t (h.sub t ht)) k hk ho
  · rcases hq with hq | rfl
    · exact h.opn q hq
    · exact ho
  · rcases List.mem_append.1 hq with hq | hq
    · exact .inl (h.sub q hq)
    · exact .inr (List.mem_singleton.1 hq)
  · rcases hq with hq | rfl
    · exact .inl (h.done q hq (fun g => hn (List.mem_append_left _ g)) j hj hoj)
    · exact absurd (by simp) hn
theorem Rch.pop {m : Mz} {f : Pt} {S : Pt → Prop} {t : Pt} {rest : List Pt} (h : Rch m f S (t :: rest)) (hall : ∀ k : Nat, k < 4 → OpenAt m (stepTo t (k : Int)) → S (stepTo t (k : Int))) : Rch m f S rest :=
  ⟨h.first, h.real, h.opn, fun q hq => h.sub q (List.mem_cons_of_mem _ hq), fun q hq hn k hk ho => by
    by_cases e : q = t
    · subst e; exact hall k hk ho
    · exact h.done q hq (fun g => (List.mem_cons.1 g).elim e hn) k hk ho⟩
theorem Rch.all {m : Mz} {f : Pt} {S : Pt → Prop} (h : Rch m f S []) (q : Pt) : S q ↔ Reach m f q := by
  refine ⟨h.real q, fun hr => ?_⟩
  induction hr with
  | here => exact h.first
  | step _ k hk ho ih => exact h.done _ ih (by simp) k hk ho
theorem Rch.congr {m : Mz} {f : Pt} {S S' : Pt → Prop} {todo : List Pt} (h : Rch m f S todo) (e : ∀ q, S q ↔ S' q) : Rch m f S' todo := by
  have : S = S' := funext fun q => propext (e q)
  rw [← this]; exact h
/-! ### Points in a maze are few -/
def allPts : List Pt := (List.range 12).flatMap fun x : Nat => (List.range 12).map fun y : Nat => ((x : Int), (y : Int))
theorem mem_allPts {p : Pt} : p ∈ allPts ↔ (0 ≤ p.1 ∧ p.1 ≤ 11) ∧ 0 ≤ p.2 ∧ p.2 ≤ 11 := by
  obtain ⟨a, b⟩ := p
  unfold allPts
  simp only [List.mem_flatMap, List.mem_map, List.mem_range, Prod.mk.injEq]
  constructor
  · rintro ⟨x, hx, y, hy, e1, e2⟩
    omega
  · rintro ⟨⟨h1, h2⟩, h3, h4⟩
    exact ⟨a.toNat, by omega, b.toNat, by omega, by omega, by omega⟩
theorem allPts_len : allPts.length = 144 := by rfl
theorem nodup_leP {l : List Pt} (hn : l.Nodup) : ∀ {M : List Pt}, (∀ x ∈ l, x ∈ M) → l.length ≤ M.length := by
  induction l with
  | nil => intro M _; simp
  | cons a r ih =>
    intro M h
    rw [List.nodup_cons] at hn
    have ha := h a (by simp)
    have := ih hn.2 (M := M.erase a) (fun x hx => by
      have hxa : x ≠ a := fun e => hn.1 (e ▸ hx)
      exact (List.mem_erase_of_ne hxa).2 (h x (List.mem_cons_of_mem _ hx)))
    rw [List.length_erase_of_mem ha] at this
    have hM : 0 < M.length := List.length_pos_of_mem ha
    simp only [List.length_cons]; omega
theorem InMz.all {m : Mz} (hm : MzOk m) {p : Pt} (h : InMz m p) : p ∈ allPts := by
  obtain ⟨⟨a, b⟩, ⟨c, d⟩, _⟩ := hm
  obtain ⟨⟨e1, e2⟩, e3, e4⟩ := h
  exact mem_allPts.2 (by omega)
theorem pts_le {m : Mz} (hm : MzOk m) {l : List Pt} (hn : l.Nodup) (h : ∀ q ∈ l, InMz m q) : l.length ≤ 144 := by
  have := nodup_leP hn (M := allPts) (fun q hq => (h q hq).all hm)
  rw [allPts_len] at this; exact this
/-! ### The sorted list of a set of points -/
def ltP (p q : Pt) : Prop := p.1 < q.1 ∨ (p.1 = q.1 ∧ p.2 < q.2)
instance (p q : Pt) : Decidable (ltP p q) := by unfold ltP; exact inferInstance
theorem ltP.trans {a b c : Pt} (h : ltP a b) (k : ltP b c) : ltP a c := by unfold ltP at *; omega
theorem ltP.irrefl (a : Pt) : ¬ ltP a a := by unfold ltP; omega
/-- The points with a property, by columns. -/
noncomputable def ptsTo (S : Pt → Prop) (h : Nat) (x y : Nat) : List Pt := ((List.range x).flatMap fun a : Nat => ((List.range h).filter fun b : Nat => @decide (S ((a : Int), (b : Int))) (Classical.propDecidable _)).map fun b : Nat => ((a : Int), (b : Int))) ++ ((List.range y).filter fun b : Nat => @decide (S ((x : Int), (b : Int))) (Classical.propDecidable _)).map fun b : Nat => ((x : Int), (b : Int))
theorem ptsTo_zero (S : Pt → Prop) (h : Nat) : ptsTo S h 0 0 = [] := rfl
theorem ptsTo_col (S : Pt → Prop) (h x : Nat) : ptsTo S h x h = ptsTo S h (x + 1) 0 := by
  unfold ptsTo
  rw [List.range_succ, List.flatMap_append]
  simp
theorem ptsTo_yes {S : Pt → Prop} {h x y : Nat} (hs : S ((x : Int), (y : Int))) : ptsTo S h x (y + 1) = ptsTo S h x y ++ [((x : Int), (y : Int))] := by
  unfold ptsTo
  rw [List.range_succ, List.filter_append, List.map_append, ← List.append_assoc]
  simp [hs]
theorem ptsTo_no {S : Pt → Prop} {h x y : Nat} (hs : ¬ S ((x : Int), (y : Int))) : ptsTo S h x (y + 1) = ptsTo S h x y := by
  unfold ptsTo
  rw [List.range_succ, List.filter_append, List.map_append]
  simp [hs]
theorem mem_ptsTo {S : Pt → Prop} {h w : Nat} {p : Pt} : p ∈ ptsTo S h w 0 ↔ (0 ≤ p.1 ∧ p.1 < w) ∧ (0 ≤ p.2 ∧ p.2 < h) ∧ S p := by
  obtain ⟨a, b⟩ := p
  unfold ptsTo
  simp only [List.range_zero, List.filter_nil, List.map_nil, List.append_nil, List.mem_flatMap, List.mem_map, List.mem_filter, List.mem_range, decide_eq_true_eq, Prod.mk.injEq]
  constructor
  · rintro ⟨x, hx, y, ⟨hy, hs⟩, rfl, rfl⟩
    exact ⟨by omega, by omega, hs⟩
  · rintro ⟨h1, h2, h3⟩
    refine ⟨a.toNat, by omega, b.toNat, ⟨by omega, ?_⟩, by omega, by omega⟩
    rwa [show ((a.toNat : Nat) : Int) = a by omega, show ((b.toNat : Nat) : Int) = b by omega]
theorem ptsTo_sorted (S : Pt → Prop) (h : Nat) : ∀ x, (ptsTo S h x 0).Pairwise ltP := by
  have cols : ∀ x y, (ptsTo S h x 0).Pairwise ltP → (ptsTo S h x y).Pairwise ltP ∧ ∀ p ∈ ptsTo S h x y, p.1 < x ∨ (p.1 = x ∧ p.2 < y) := by
    intro x y h0
    induction y with
    | zero => exact ⟨h0, fun p hp => .inl (mem_ptsTo.1 hp).1.2⟩
    | succ y ih =>
      obtain ⟨i1, i2⟩ := ih
      by_cases hs : S ((x : Int), (y : Int))
      · rw [ptsTo_yes hs]
        refine ⟨?_, fun p hp => ?_⟩
        · rw [List.pairwise_append]
          refine ⟨i1, by simp, fun a ha b hb => ?_⟩
          rw [List.mem_singleton.1 hb]
          have := i2 a ha
          unfold ltP; simp only; omega
        · rcases List.mem_append.1 hp with hp | hp
          · have := i2 p hp; omega
          · rw [List.mem_singleton.1 hp]; exact .inr ⟨rfl, by simp only; omega⟩
      · rw [ptsTo_no hs]
        exact ⟨i1, fun p hp => by have := i2 p hp; omega⟩
  intro x
  induction x with
  | zero => rw [ptsTo_zero]; exact List.Pairwise.nil
  | succ x ih => rw [← ptsTo_col]; exact (cols x h ih).1
end Go.Proofs.YtmkcahfhnehanaaDoor
end
section
set_option linter.unusedSimpArgs false
set_option linter.unusedVariables false
set_option maxHeartbeats 2000000
namespace Go.Proofs.YtmkcahfhnehanaaDoor
open Go.Eng
/-- A map in which some points are set. -/
def entP (ks : List Pt) : List (Pt × Value) := ks.map fun k => (k, .bool true)
theorem entP_len (ks : List Pt) : (entP ks).length = ks.length := by simp [entP]
theorem entP_get {ks : List Pt} {q : Nat} {e : Pt × Value} (h : (entP ks)[q]? = some e) : ks[q]? = some e.1 ∧ e.2 = .bool true := by
  unfold entP at h
  rw [List.getElem?_map, Option.map_eq_some_iff] at h
  obtain ⟨k, h1, h2⟩ := h
  subst h2; exact ⟨h1, rfl⟩
theorem entP_look (q : Pt) : ∀ (ks : List Pt) (j : Nat), q ∈ ks → ∃ p, lookK .pt q (entP ks) j = some (p, .bool true)
  | [], j, h => by simp at h
  | k :: r, j, h => by
    by_cases e : q = k
    · exact ⟨j, by simp [entP, lookK, e]⟩
    · obtain ⟨p, hp⟩ := entP_look q r (j + 1) (by simpa [e] using h)
      exact ⟨p, by simpa [entP, lookK, e] using hp⟩
theorem entP_none (q : Pt) : ∀ (ks : List Pt) (j : Nat), ¬ q ∈ ks → lookK .pt q (entP ks) j = none
  | [], j, h => rfl
  | k :: r, j, h => by
    have h1 : ¬ q = k := fun e => h (by simp [e])
    have h2 := entP_none q r (j + 1) (fun e => h (List.mem_cons_of_mem _ e))
    simpa [entP, lookK, h1] using h2
theorem look_yes {q : Pt} {ks : List Pt} (h : q ∈ ks) : (getK .pt (q.1, q.2) (entP ks)).getD (.bool false) = .bool true := by
  obtain ⟨p, hp⟩ := entP_look q ks 0 h
  show ((lookK .pt q (entP ks) 0).map (·.2)).getD (.bool false) = .bool true
  rw [hp]; rfl
theorem look_no {q : Pt} {ks : List Pt} (h : ¬ q ∈ ks) : (getK .pt (q.1, q.2) (entP ks)).getD (.bool false) = .bool false := by
  show ((lookK .pt q (entP ks) 0).map (·.2)).getD (.bool false) = .bool false
  rw [entP_none q ks 0 h]; rfl
theorem put_new {q : Pt} {ks : List Pt} (h : ¬ q ∈ ks) : putK .pt (q.1, q.2) (.bool true) (entP ks) = entP (ks ++ [q]) := by
  show putK .pt q (.bool true) (entP ks) = _
  rw [put_none .pt q _ (entP ks) 0 (entP_none q ks 0 h)]
  simp [entP]
/-- A search stands here: the keys, the list, and where its rest begins. -/
structure RcOk (m : Mz) (f : Pt) (z : List Pt × List Pt × Nat × Nat) : Prop where
  rch : Rch m f (fun q => q ∈ z.1) (z.2.1.drop z.2.2.1)
  nd : z.1.Nodup
  mm : z.2.2.1 + z.2.2.2 = z.2.1.length
  lim : 2 * (144 - z.1.length) + z.2.2.2 ≤ 289
  all : z.2.1.length ≤ 300
structure RcIn (m : Mz) (f t : Pt) (M : Nat) (z : List Pt × List Pt × Nat × Nat) (i : Nat) : Prop extends RcOk m f z where
  pos : 0 < z.2.2.2
  hd : z.2.1.getD z.2.2.1 (0, 0) = t
  seen : ∀ k : Nat, k < i → OpenAt m (stepTo t (k : Int)) → stepTo t (k : Int) ∈ z.1
  mu : 2 * (144 - z.1.length) + z.2.2.2 ≤ M
theorem drop_consP {l : List Pt} {k : Nat} (h : k < l.length) : l.drop k = l.getD k (0, 0) :: l.drop (k + 1) := by
  rw [List.drop_eq_getElem_cons h]; simp [List.getD, h]
noncomputable def rcO (m : Mz) (H : List ABox) (z : List Pt × List Pt × Nat × Nat) : St := (⟨44, [(0, .rp [.rd (.sli .i64) (m)] 0), (5, .mp (H.length + 0)), (6, .sl 2 (H.length + 1) z.2.2.1 z.2.2.2)], H, [.map .pt (entP z.1), .row false .pt (z.2.1)]⟩ : St)
noncomputable def rcI (m : Mz) (H : List ABox) (z : List Pt × List Pt × Nat × Nat) (i : Nat) : St := (⟨44, [(0, .rp [.rd (.sli .i64) (m)] 0), (5, .mp (H.length + 0)), (6, .sl 2 (H.length + 1) z.2.2.1 z.2.2.2), (19, .v (.int .i64 ((i : Int))))], H, [.map .pt (entP z.1), .row false .pt (z.2.1)]⟩ : St)
theorem OpenAt.bnd {m : Mz} (hm : MzOk m) {p : Pt} (h : OpenAt m p) : (0 ≤ p.1 ∧ p.1 ≤ 11) ∧ 0 ≤ p.2 ∧ p.2 ≤ 11 := mem_allPts.1 (h.1.all hm)
theorem reached30_ac (m : Mz) (f : Pt) (hm : MzOk m) (hf : OpenAt m f) (H : List ABox) : AC Tryd.prog 40 [.rp [.rd (.sli .i64) (m)] 0, .agg [.v (.int .i64 (f).1), .v (.int .i64 (f).2)]] H
    (fun r H' => ∃ ks : List Pt, (ks.Nodup ∧ ∀ q, q ∈ ks ↔ Reach m f q) ∧ r = .mp H.length ∧ H' = H ++ [.map .pt (entP ks)]) := by
  refine AC.enter envOk Tryd.func40 rfl (by decide) Tryd.ntmps40 Tryd.results40 (by simp) fun hB => ?_
  repeat' (first | (with_reducible first | refine AW.sreg envOk fun K hK => ?_ | refine AW.region envOk fun K hK => ?_ | refine vcL_nil ?_) | (with_reducible (first | refine vcL_cons fun K' hK' => ?_); simp only [isC, Bool.false_or, Bool.or_true, vAppend, elems, ↓reduceDIte, List.take_length, Nat.le_refl, List.drop_zero, vGuard, undef, Bool.not_eq_eq_eq_not, dstOk, vcOp, vcF, isPure, putS, vcCall, St.ev, St.put, lk, AVal.ofVal, initS, Nat.reduceLT, true_and, and_true, vBin, vUn, vPick, vPart, vLoad, vStore, vIdxA, vLen, vAlloc, vBox, vBuildSl, vSlice, bnd, partsA, fillA, decAll, AVal.flat, AVal.cell, cellsOk, setRange, ETy.enc, ETy.dec, ETy.sz, ETy.d, cond, Nat.reduceBEq, Nat.reduceAdd, Int.toNat_natCast, List.length_set, List.length_append, List.length_replicate, List.length_take, Nat.reduceSub, Nat.reduceEqDiff, get_loc, setBox_loc, next_eq, List.length_cons, List.length_nil, List.map_cons, List.map_nil, List.append_nil, List.nil_append, List.cons_append, List.set_cons_zero, List.set_cons_succ, getD_zero, getD_succ, List.getElem?_cons_succ, List.getElem?_cons_zero, List.take_succ_cons, List.take_zero, List.drop_succ_cons, List.all_cons, List.all_nil, Bool.and_true, Bool.true_and, Option.bind_some, Option.map_some, Option.map_none, decide_eq_true_eq, decide_eq_false_iff_not, ne_eq, Bool.not_eq_true, Bool.not_eq_false, Decidable.not_not, not_true_eq_false, not_false_eq_true, forall_const, false_implies, Bool.true_eq_false, Bool.false_eq_true, reduceCtorEq, decide_true, decide_false, Bool.not_true, Bool.not_false, if_true, if_false, Nat.zero_add, Nat.lt_irrefl, Value.oneCell', gt_iff_lt, Nat.reduceLeDiff, Nat.lt_add_one, vSealSl, vMakeMap, vLookup, vMapUpd, vMapEnt, vEntSt, vRange, vEntry, KK.of, KK.av, lkRes, entry_last, vvar_1, vzero_1, vvar_3, vzero_3, vknd_3, vsn_3, vvar_4, vzero_4, vknd_4, vsn_4, vvar_46, vzero_46, vbld_46, vpts_46, vsl_48, vkn_48, vvar_48, vzero_48, vvar_74, vzero_74, vvar_76, vzero_76, vmp_76]; try simp (disch := omega) only [wrap64]) | (with_reducible refine hK' _ ?_; clear hK' K') | (with_reducible refine hK _ ?_; clear hK K) | (with_reducible first | refine And.intro (And.intro rfl rfl) ?_ | refine And.intro (by omega) ?_) | (with_reducible refine And.intro (fun hg => ?_) (fun hg => ?_) <;> first | simp only [eq_false hg, rsB] | simp only [eq_true hg, rsB] | simp only [hg, rsB]) | (with_reducible first | refine And.intro rfl (And.intro rfl rfl) | refine thenQ_n ?_ | refine thenQ_exit ?_ | refine thenQ_ret ?_ | refine midQ_ret ?_ | refine midQ_exit ?_ | refine blockQ_same ?_ | refine blockQ_ne (by decide) ?_ | refine blockQ_ret ?_ | refine blockQ_n ?_ | refine AW.exit ?_ | refine AW.block ?_ | refine AW.cond_t rfl ?_ | refine AW.cond_f rfl ?_ | refine AW.cond_dec rfl (fun hc => ?_) (fun hc => ?_)) | (with_reducible refine AW.cond rfl (fun hc => ?_) (fun hc => ?_) <;> try simp only [Bool.not_eq_eq_eq_not, Bool.not_true, Bool.not_false, decide_eq_true_eq, decide_eq_false_iff_not] at hc) | (with_reducible first | refine AW.seq ?_ | refine AW.skip ?_ | refine AW.ret ?_ | refine And.intro ?_ ?_) | (with_reducible intro hg; first | simp only [eq_false hg, rsB] | simp only [eq_true hg, rsB]) | (with_reducible refine retQ_drop ?_; simp only [vRes, packRes, vLoad, vPart, lk, cond, Nat.reduceBEq, get_loc, getD_zero, getD_succ, true_and, List.length_cons, List.length_nil, Nat.reduceAdd, Nat.reduceLT, Nat.reduceLeDiff, List.take_succ_cons, List.take_zero, List.drop_succ_cons, List.drop_zero, vvar_1, vzero_1, vvar_3, vzero_3, vknd_3, vsn_3, vvar_4, vzero_4, vknd_4, vsn_4, vvar_46, vzero_46, vbld_46, vpts_46, vsl_48, vkn_48, vvar_48, vzero_48, vvar_74, vzero_74, vvar_76, vzero_76, vmp_76]) )
  refine AW.loop (fun z : List Pt × List Pt × Nat × Nat => rcO m H z) (fun z => RcOk m f z) (fun z => 2 * (144 - z.1.length) + z.2.2.2) ([f], [f], 0, 1) ?_ ?_ ?_
  · refine ⟨(Rch.start hf).congr (fun q => by simp), by simp, rfl, by simp, by simp⟩
  · unfold rcO
    exact (Weak.sel [1, 2] hB (by decide) (by (repeat' (first | exact trivial | exact RenB.plRow rfl | exact RenB.dead _ | exact RenB.map _ _ | exact RenB.iter rfl | refine And.intro ?_ ?_ | (refine RenB.plBox ?_; (repeat' (first | exact Pl.v _ | exact Pl.junk | exact Pl.rd rfl _ | exact pl_nil | refine pl_cons ?_ ?_ | refine Pl.agg ?_ | refine Pl.tup ?_ | refine Pl.rp ?_ | refine Pl.fn ?_)); (first | done | fail)) | refine RenB.of ?_ | exact RenV.ptr rfl | exact RenV.sl rfl | exact RenV.mp rfl | exact RenV.it rfl | exact RenV.low (IdsLt.mp (by assumption)) | (refine RenV.pl ?_; (repeat' (first | exact Pl.v _ | exact Pl.junk | exact Pl.rd rfl _ | exact pl_nil | refine pl_cons ?_ ?_ | refine Pl.agg ?_ | refine Pl.tup ?_ | refine Pl.rp ?_ | refine Pl.fn ?_)); (first | done | fail)) | refine RenV.aggL ?_ | refine RenV.fnL ?_ | exact Nat.lt_of_sub_pos (by decide) | (simp; (first | done | fail)))); (first | done | fail)) (by (repeat' (first | exact trivial | exact RenV.ptr rfl | exact RenV.sl rfl | exact RenV.mp rfl | exact RenV.it rfl | exact RenV.low (IdsLt.mp (by assumption)) | exact RenV.low (.v _) | exact RenV.low (IdsLt.ptr (by assumption)) | (refine RenV.pl ?_; (repeat' (first | exact Pl.v _ | exact Pl.junk | exact Pl.rd rfl _ | exact pl_nil | refine pl_cons ?_ ?_ | refine Pl.agg ?_ | refine Pl.tup ?_ | refine Pl.rp ?_ | refine Pl.fn ?_)); (first | done | fail)) | refine RenV.fnL ?_ | refine RenV.aggL ?_ | refine And.intro ?_ ?_)); (first | done | fail)))
  intro ⟨ks, all, off, n⟩ hz
  have hmm := hz.mm
  have hlim := hz.lim
  have hall := hz.all
  simp only at hmm hlim hall
  unfold rcO
  by_cases hn : 0 < n
  · obtain ⟨t, htt⟩ : ∃ t, all.getD off (0, 0) = t := ⟨_, rfl⟩
    repeat' (first | (with_reducible first | refine AW.sreg envOk fun K hK => ?_ | refine AW.region envOk fun K hK => ?_ | refine vcL_nil ?_) | (with_reducible (first | refine vcL_cons fun K' hK' => ?_); simp only [isC, Bool.false_or, Bool.or_true, vAppend, elems, ↓reduceDIte, List.take_length, Nat.le_refl, List.drop_zero, vGuard, undef, Bool.not_eq_eq_eq_not, dstOk, vcOp, vcF, isPure, putS, vcCall, St.ev, St.put, lk, AVal.ofVal, initS, Nat.reduceLT, true_and, and_true, vBin, vUn, vPick, vPart, vLoad, vStore, vIdxA, vLen, vAlloc, vBox, vBuildSl, vSlice, bnd, partsA, fillA, decAll, AVal.flat, AVal.cell, cellsOk, setRange, ETy.enc, ETy.dec, ETy.sz, ETy.d, cond, Nat.reduceBEq, Nat.reduceAdd, Int.toNat_natCast, List.length_set, List.length_append, List.length_replicate, List.length_take, Nat.reduceSub, Nat.reduceEqDiff, get_loc, setBox_loc, next_eq, List.length_cons, List.length_nil, List.map_cons, List.map_nil, List.append_nil, List.nil_append, List.cons_append, List.set_cons_zero, List.set_cons_succ, getD_zero, getD_succ, List.getElem?_cons_succ, List.getElem?_cons_zero, List.take_succ_cons, List.take_zero, List.drop_succ_cons, List.all_cons, List.all_nil, Bool.and_true, Bool.true_and, Option.bind_some, Option.map_some, Option.map_none, decide_eq_true_eq, decide_eq_false_iff_not, ne_eq, Bool.not_eq_true, Bool.not_eq_false, Decidable.not_not, not_true_eq_false, not_false_eq_true, forall_const, false_implies, Bool.true_eq_false, Bool.false_eq_true, reduceCtorEq, decide_true, decide_false, Bool.not_true, Bool.not_false, if_true, if_false, Nat.zero_add, Nat.lt_irrefl, Value.oneCell', gt_iff_lt, Nat.reduceLeDiff, Nat.lt_add_one, vSealSl, vMakeMap, vLookup, vMapUpd, vMapEnt, vEntSt, vRange, vEntry, KK.of, KK.av, lkRes, entry_last, vvar_1, vzero_1, vvar_3, vzero_3, vknd_3, vsn_3, vvar_4, vzero_4, vknd_4, vsn_4, vvar_46, vzero_46, vbld_46, vpts_46, vsl_48, vkn_48, vvar_48, vzero_48, vvar_74, vzero_74, vvar_76, vzero_76, vmp_76]; try simp (disch := omega) only [wrap64]) | (with_reducible refine hK' _ ?_; clear hK' K') | (with_reducible refine hK _ ?_; clear hK K) | (with_reducible first | refine And.intro (And.intro rfl rfl) ?_ | refine And.intro (by omega) ?_) | (with_reducible refine And.intro (fun hg => ?_) (fun hg => ?_) <;> first | simp only [eq_false hg, rsB] | simp only [eq_true hg, rsB] | simp only [hg, rsB]) | (with_reducible first | refine And.intro rfl (And.intro rfl rfl) | refine thenQ_n ?_ | refine thenQ_exit ?_ | refine thenQ_ret ?_ | refine midQ_ret ?_ | refine midQ_exit ?_ | refine blockQ_same ?_ | refine blockQ_ne (by decide) ?_ | refine blockQ_ret ?_ | refine blockQ_n ?_ | refine AW.exit ?_ | refine AW.block ?_ | refine AW.cond_t rfl ?_ | refine AW.cond_f rfl ?_ | refine AW.cond_dec rfl (fun hc => ?_) (fun hc => ?_)) | (with_reducible refine AW.cond rfl (fun hc => ?_) (fun hc => ?_) <;> try simp only [Bool.not_eq_eq_eq_not, Bool.not_true, Bool.not_false, decide_eq_true_eq, decide_eq_false_iff_not] at hc) | (with_reducible first | refine AW.seq ?_ | refine AW.skip ?_ | refine AW.ret ?_ | refine And.intro ?_ ?_) | (with_reducible intro hg; first | simp only [eq_false hg, rsB] | simp only [eq_true hg, rsB]) | (with_reducible refine retQ_drop ?_; simp only [vRes, packRes, vLoad, vPart, lk, cond, Nat.reduceBEq, get_loc, getD_zero, getD_succ, true_and, List.length_cons, List.length_nil, Nat.reduceAdd, Nat.reduceLT, Nat.reduceLeDiff, List.take_succ_cons, List.take_zero, List.drop_succ_cons, List.drop_zero, vvar_1, vzero_1, vvar_3, vzero_3, vknd_3, vsn_3, vvar_4, vzero_4, vknd_4, vsn_4, vvar_46, vzero_46, vbld_46, vpts_46, vsl_48, vkn_48, vvar_48, vzero_48, vvar_74, vzero_74, vvar_76, vzero_76, vmp_76]) )
    all_goals first
      | (exfalso; omega)
      | skip
    refine AW.loop (fun y : (List Pt × List Pt × Nat × Nat) × Nat => rcI m H y.1 y.2) (fun y => y.2 ≤ 4 ∧ RcIn m f t (2 * (144 - ks.length) + n) y.1 y.2) (fun y => 4 - y.2) ((ks, all, off, n), 0) ⟨Nat.zero_le _, hz, hn, htt, fun j hj => absurd hj (by omega), Nat.le_refl _⟩ ?_ ?_
    · unfold rcI
      exact (Weak.slots (by repeat' first | exact trivial | exact ⟨rfl, trivial⟩ | refine ⟨rfl, ?_⟩))
    clear htt hlim hall hmm hz hn
    intro ⟨⟨ks2, all2, off2, n2⟩, i⟩ ⟨hi, hy⟩
    have hmm := hy.mm
    have hlim := hy.lim
    have hall := hy.all
    have htt := hy.hd
    have hn := hy.pos
    have htt0 : all2.getD (off2 + 0) (0, 0) = t := hy.hd
    have hsn := hy.seen
    simp only at hi hmm hlim hall htt hn hsn
    have hdr : all2.drop off2 = t :: all2.drop (off2 + 1) := by rw [drop_consP (by omega), htt]
    have htS : t ∈ all2.drop off2 := by rw [hdr]; simp
    have hto := OpenAt.bnd hm (hy.rch.opn t (hy.rch.sub t htS))
    obtain ⟨⟨ht0, ht1⟩, ht2, ht3⟩ := hto
    unfold rcI
    by_cases hin : i < 4
    · by_cases hop : OpenAt m (stepTo t (i : Int))
      · have hop' : decide (OpenAt m (stepTo t (i : Int))) = true := decide_eq_true hop
        by_cases hmem : stepTo t (i : Int) ∈ ks2
        · have hlk := look_yes hmem
          repeat' (first | (with_reducible first | refine AW.sreg envOk fun K hK => ?_ | refine AW.region envOk fun K hK => ?_ | refine vcL_nil ?_) | (with_reducible (first | refine vcL_cons fun K' hK' => ?_); simp only [isC, Bool.false_or, Bool.or_true, vAppend, elems, ↓reduceDIte, List.take_length, Nat.le_refl, List.drop_zero, vGuard, undef, Bool.not_eq_eq_eq_not, dstOk, vcOp, vcF, isPure, putS, vcCall, St.ev, St.put, lk, AVal.ofVal, initS, Nat.reduceLT, true_and, and_true, vBin, vUn, vPick, vPart, vLoad, vStore, vIdxA, vLen, vAlloc, vBox, vBuildSl, vSlice, bnd, partsA, fillA, decAll, AVal.flat, AVal.cell, cellsOk, setRange, ETy.enc, ETy.dec, ETy.sz, ETy.d, cond, Nat.reduceBEq, Nat.reduceAdd, Int.toNat_natCast, List.length_set, List.length_append, List.length_replicate, List.length_take, Nat.reduceSub, Nat.reduceEqDiff, get_loc, setBox_loc, next_eq, List.length_cons, List.length_nil, List.map_cons, List.map_nil, List.append_nil, List.nil_append, List.cons_append, List.set_cons_zero, List.set_cons_succ, getD_zero, getD_succ, List.getElem?_cons_succ, List.getElem?_cons_zero, List.take_succ_cons, List.take_zero, List.drop_succ_cons, List.all_cons, List.all_nil, Bool.and_true, Bool.true_and, Option.bind_some, Option.map_some, Option.map_none, decide_eq_true_eq, decide_eq_false_iff_not, ne_eq, Bool.not_eq_true, Bool.not_eq_false, Decidable.not_not, not_true_eq_false, not_false_eq_true, forall_const, false_implies, Bool.true_eq_false, Bool.false_eq_true, reduceCtorEq, decide_true, decide_false, Bool.not_true, Bool.not_false, if_true, if_false, Nat.zero_add, Nat.lt_irrefl, Value.oneCell', gt_iff_lt, Nat.reduceLeDiff, Nat.lt_add_one, vSealSl, vMakeMap, vLookup, vMapUpd, vMapEnt, vEntSt, vRange, vEntry, KK.of, KK.av, lkRes, entry_last, vvar_1, vzero_1, vvar_3, vzero_3, vknd_3, vsn_3, vvar_4, vzero_4, vknd_4, vsn_4, vvar_46, vzero_46, vbld_46, vpts_46, vsl_48, vkn_48, vvar_48, vzero_48, vvar_74, vzero_74, vvar_76, vzero_76, vmp_76, htt0, Int.toNat_zero, Int.reduceToNat, hop', hlk]; try simp (disch := omega) only [wrap64]) | (with_reducible refine hK' _ ?_; clear hK' K') | (with_reducible refine hK _ ?_; clear hK K) | (with_reducible first | refine vCall_pure (step58_ac t _ (by omega) (by omega) _) ?_ | refine vCall_pure (open44_ac m (stepTo t (i : Int)) hm _) ?_ | refine And.intro (And.intro rfl rfl) ?_ | refine And.intro (by omega) ?_) | (with_reducible refine And.intro (fun hg => ?_) (fun hg => ?_) <;> first | simp only [eq_false hg, rsB] | simp only [eq_true hg, rsB] | simp only [hg, rsB]) | (with_reducible first | refine And.intro rfl (And.intro rfl rfl) | refine thenQ_n ?_ | refine thenQ_exit ?_ | refine thenQ_ret ?_ | refine midQ_ret ?_ | refine midQ_exit ?_ | refine blockQ_same ?_ | refine blockQ_ne (by decide) ?_ | refine blockQ_ret ?_ | refine blockQ_n ?_ | refine AW.exit ?_ | refine AW.block ?_ | refine AW.cond_t rfl ?_ | refine AW.cond_f rfl ?_ | refine AW.cond_dec rfl (fun hc => ?_) (fun hc => ?_)) | (with_reducible refine AW.cond rfl (fun hc => ?_) (fun hc => ?_) <;> try simp only [Bool.not_eq_eq_eq_not, Bool.not_true, Bool.not_false, decide_eq_true_eq, decide_eq_false_iff_not] at hc) | (with_reducible first | refine AW.seq ?_ | refine AW.skip ?_ | refine AW.ret ?_ | refine And.intro ?_ ?_) | (with_reducible intro hg; first | simp only [eq_false hg, rsB] | simp only [eq_true hg, rsB]) | (with_reducible refine retQ_drop ?_; simp only [vRes, packRes, vLoad, vPart, lk, cond, Nat.reduceBEq, get_loc, getD_zero, getD_succ, true_and, List.length_cons, List.length_nil, Nat.reduceAdd, Nat.reduceLT, Nat.reduceLeDiff, List.take_succ_cons, List.take_zero, List.drop_succ_cons, List.drop_zero, vvar_1, vzero_1, vvar_3, vzero_3, vknd_3, vsn_3, vvar_4, vzero_4, vknd_4, vsn_4, vvar_46, vzero_46, vbld_46, vpts_46, vsl_48, vkn_48, vvar_48, vzero_48, vvar_74, vzero_74, vvar_76, vzero_76, vmp_76]) )
          all_goals first
            | (exfalso; omega)
            | skip
          refine ⟨((ks2, all2, off2, n2), i + 1), ⟨by simp only; omega, hy.toRcOk, hn, htt, fun j hj he => ?_, hy.mu⟩, by simp only; omega, (Weak.sel [0, 1] hB (by decide) (by (repeat' (first | exact trivial | exact RenB.plRow rfl | exact RenB.dead _ | exact RenB.map _ _ | exact RenB.iter rfl | refine And.intro ?_ ?_ | (refine RenB.plBox ?_; (repeat' (first | exact Pl.v _ | exact Pl.junk | exact Pl.rd rfl _ | exact pl_nil | refine pl_cons ?_ ?_ | refine Pl.agg ?_ | refine Pl.tup ?_ | refine Pl.rp ?_ | refine Pl.fn ?_)); (first | done | fail)) | refine RenB.of ?_ | exact RenV.ptr rfl | exact RenV.sl rfl | exact RenV.mp rfl | exact RenV.it rfl | exact RenV.low (IdsLt.mp (by assumption)) | (refine RenV.pl ?_; (repeat' (first | exact Pl.v _ | exact Pl.junk | exact Pl.rd rfl _ | exact pl_nil | refine pl_cons ?_ ?_ | refine Pl.agg ?_ | refine Pl.tup ?_ | refine Pl.rp ?_ | refine Pl.fn ?_)); (first | done | fail)) | refine RenV.aggL ?_ | refine RenV.fnL ?_ | exact Nat.lt_of_sub_pos (by decide) | (simp; (first | done | fail)))); (first | done | fail)) (by (repeat' (first | exact trivial | exact RenV.ptr rfl | exact RenV.sl rfl | exact RenV.mp rfl | exact RenV.it rfl | exact RenV.low (IdsLt.mp (by assumption)) | exact RenV.low (.v _) | exact RenV.low (IdsLt.ptr (by assumption)) | (refine RenV.pl ?_; (repeat' (first | exact Pl.v _ | exact Pl.junk | exact Pl.rd rfl _ | exact pl_nil | refine pl_cons ?_ ?_ | refine Pl.agg ?_ | refine Pl.tup ?_ | refine Pl.rp ?_ | refine Pl.fn ?_)); (first | done | fail)) | refine RenV.fnL ?_ | refine RenV.aggL ?_ | refine And.intro ?_ ?_)); (first | done | fail)))⟩
          by_cases e : j = i
          · subst e; exact hmem
          · exact hsn j (by simp only at hj; omega) he
        · have hlk := look_no hmem
          have hput := put_new hmem
          have htk : (all2.drop off2).take n2 = all2.drop off2 := List.take_of_length_le (by simp; omega)
          repeat' (first | (with_reducible first | refine AW.sreg envOk fun K hK => ?_ | refine AW.region envOk fun K hK => ?_ | refine vcL_nil ?_) | (with_reducible (first | refine vcL_cons fun K' hK' => ?_); simp only [isC, Bool.false_or, Bool.or_true, vAppend, elems, ↓reduceDIte, List.take_length, Nat.le_refl, List.drop_zero, vGuard, undef, Bool.not_eq_eq_eq_not, dstOk, vcOp, vcF, isPure, putS, vcCall, St.ev, St.put, lk, AVal.ofVal, initS, Nat.reduceLT, true_and, and_true, vBin, vUn, vPick, vPart, vLoad, vStore, vIdxA, vLen, vAlloc, vBox, vBuildSl, vSlice, bnd, partsA, fillA, decAll, AVal.flat, AVal.cell, cellsOk, setRange, ETy.enc, ETy.dec, ETy.sz, ETy.d, cond, Nat.reduceBEq, Nat.reduceAdd, Int.toNat_natCast, List.length_set, List.length_append, List.length_replicate, List.length_take, Nat.reduceSub, Nat.reduceEqDiff, get_loc, setBox_loc, next_eq, List.length_cons, List.length_nil, List.map_cons, List.map_nil, List.append_nil, List.nil_append, List.cons_append, List.set_cons_zero, List.set_cons_succ, getD_zero, getD_succ, List.getElem?_cons_succ, List.getElem?_cons_zero, List.take_succ_cons, List.take_zero, List.drop_succ_cons, List.all_cons, List.all_nil, Bool.and_true, Bool.true_and, Option.bind_some, Option.map_some, Option.map_none, decide_eq_true_eq, decide_eq_false_iff_not, ne_eq, Bool.not_eq_true, Bool.not_eq_false, Decidable.not_not, not_true_eq_false, not_false_eq_true, forall_const, false_implies, Bool.true_eq_false, Bool.false_eq_true, reduceCtorEq, decide_true, decide_false, Bool.not_true, Bool.not_false, if_true, if_false, Nat.zero_add, Nat.lt_irrefl, Value.oneCell', gt_iff_lt, Nat.reduceLeDiff, Nat.lt_add_one, vSealSl, vMakeMap, vLookup, vMapUpd, vMapEnt, vEntSt, vRange, vEntry, KK.of, KK.av, lkRes, entry_last, vvar_1, vzero_1, vvar_3, vzero_3, vknd_3, vsn_3, vvar_4, vzero_4, vknd_4, vsn_4, vvar_46, vzero_46, vbld_46, vpts_46, vsl_48, vkn_48, vvar_48, vzero_48, vvar_74, vzero_74, vvar_76, vzero_76, vmp_76, htt0, Int.toNat_zero, Int.reduceToNat, hop', hlk, hput, htk]; try simp (disch := omega) only [wrap64]) | (with_reducible refine hK' _ ?_; clear hK' K') | (with_reducible refine hK _ ?_; clear hK K) | (with_reducible first | refine vCall_pure (step58_ac t _ (by omega) (by omega) _) ?_ | refine vCall_pure (open44_ac m (stepTo t (i : Int)) hm _) ?_ | refine And.intro (And.intro rfl rfl) ?_ | refine And.intro (by omega) ?_) | (with_reducible refine And.intro (fun hg => ?_) (fun hg => ?_) <;> first | simp only [eq_false hg, rsB] | simp only [eq_true hg, rsB] | simp only [hg, rsB]) | (with_reducible first | refine And.intro rfl (And.intro rfl rfl) | refine thenQ_n ?_ | refine thenQ_exit ?_ | refine thenQ_ret ?_ | refine midQ_ret ?_ | refine midQ_exit ?_ | refine blockQ_same ?_ | refine blockQ_ne (by decide) ?_ | refine blockQ_ret ?_ | refine blockQ_n ?_ | refine AW.exit ?_ | refine AW.block ?_ | refine AW.cond_t rfl ?_ | refine AW.cond_f rfl ?_ | refine AW.cond_dec rfl (fun hc => ?_) (fun hc => ?_)) | (with_reducible refine AW.cond rfl (fun hc => ?_) (fun hc => ?_) <;> try simp only [Bool.not_eq_eq_eq_not, Bool.not_true, Bool.not_false, decide_eq_true_eq, decide_eq_false_iff_not] at hc) | (with_reducible first | refine AW.seq ?_ | refine AW.skip ?_ | refine AW.ret ?_ | refine And.intro ?_ ?_) | (with_reducible intro hg; first | simp only [eq_false hg, rsB] | simp only [eq_true hg, rsB]) | (with_reducible refine retQ_drop ?_; simp only [vRes, packRes, vLoad, vPart, lk, cond, Nat.reduceBEq, get_loc, getD_zero, getD_succ, true_and, List.length_cons, List.length_nil, Nat.reduceAdd, Nat.reduceLT, Nat.reduceLeDiff, List.take_succ_cons, List.take_zero, List.drop_succ_cons, List.drop_zero, vvar_1, vzero_1, vvar_3, vzero_3, vknd_3, vsn_3, vvar_4, vzero_4, vknd_4, vsn_4, vvar_46, vzero_46, vbld_46, vpts_46, vsl_48, vkn_48, vvar_48, vzero_48, vvar_74, vzero_74, vvar_76, vzero_76, vmp_76]) )
          all_goals first
            | (exfalso; omega)
            | skip
          have hadd := hy.rch.add htS hin hop
          have hnd : (ks2 ++ [stepTo t (i : Int)]).Nodup := by
            rw [List.nodup_append]
            exact ⟨hy.nd, by simp, fun a ha b hb e => hmem (by rw [List.mem_singleton.1 hb] at e; exact e ▸ ha)⟩
          have hadd' : Rch m f (fun q => q ∈ ks2 ++ [stepTo t (i : Int)]) (all2.drop off2 ++ [stepTo t (i : Int)]) := hadd.congr (fun q => by simp)
          have hle := pts_le hm hnd (fun q hq => (hadd'.opn q hq).1)
          have hmu := hy.mu
          simp only [List.length_append, List.length_singleton] at hle hmu
          refine ⟨((ks2 ++ [stepTo t (i : Int)], all2.drop off2 ++ [stepTo t (i : Int)], 0, n2 + 1), i + 1), ⟨by simp only; omega, ⟨⟨hadd', hnd, ?_, ?_, ?_⟩, ?_, ?_, fun j hj he => ?_, ?_⟩⟩, by simp only; omega, (Weak.sel [0, 4] hB (by decide) (by (repeat' (first | exact trivial | exact RenB.plRow rfl | exact RenB.dead _ | exact RenB.map _ _ | exact RenB.iter rfl | refine And.intro ?_ ?_ | (refine RenB.plBox ?_; (repeat' (first | exact Pl.v _ | exact Pl.junk | exact Pl.rd rfl _ | exact pl_nil | refine pl_cons ?_ ?_ | refine Pl.agg ?_ | refine Pl.tup ?_ | refine Pl.rp ?_ | refine Pl.fn ?_)); (first | done | fail)) | refine RenB.of ?_ | exact RenV.ptr rfl | exact RenV.sl rfl | exact RenV.mp rfl | exact RenV.it rfl | exact RenV.low (IdsLt.mp (by assumption)) | (refine RenV.pl ?_; (repeat' (first | exact Pl.v _ | exact Pl.junk | exact Pl.rd rfl _ | exact pl_nil | refine pl_cons ?_ ?_ | refine Pl.agg ?_ | refine Pl.tup ?_ | refine Pl.rp ?_ | refine Pl.fn ?_)); (first | done | fail)) | refine RenV.aggL ?_ | refine RenV.fnL ?_ | exact Nat.lt_of_sub_pos (by decide) | (simp; (first | done | fail)))); (first | done | fail)) (by (repeat' (first | exact trivial | exact RenV.ptr rfl | exact RenV.sl rfl | exact RenV.mp rfl | exact RenV.it rfl | exact RenV.low (IdsLt.mp (by assumption)) | exact RenV.low (.v _) | exact RenV.low (IdsLt.ptr (by assumption)) | (refine RenV.pl ?_; (repeat' (first | exact Pl.v _ | exact Pl.junk | exact Pl.rd rfl _ | exact pl_nil | refine pl_cons ?_ ?_ | refine Pl.agg ?_ | refine Pl.tup ?_ | refine Pl.rp ?_ | refine Pl.fn ?_)); (first | done | fail)) | refine RenV.fnL ?_ | refine RenV.aggL ?_ | refine And.intro ?_ ?_)); (first | done | fail)))⟩
          · simp only [List.length_append, List.length_drop, List.length_singleton]; omega
          · simp only [List.length_append, List.length_singleton]; omega
          · simp only [List.length_append, List.length_drop, List.length_singleton]; omega
          · simp only; omega
          · simp only [hdr]; rfl
          · by_cases e : j = i
            · subst e; simp
            · exact List.mem_append_left _ (hsn j (by simp only at hj; omega) he)
          · simp only [List.length_append, List.length_singleton]; omega
      · have hop' : decide (OpenAt m (stepTo t (i : Int))) = false := decide_eq_false hop
        repeat' (first | (with_reducible first | refine AW.sreg envOk fun K hK => ?_ | refine AW.region envOk fun K hK => ?_ | refine vcL_nil ?_) | (with_reducible (first | refine vcL_cons fun K' hK' => ?_); simp only [isC, Bool.false_or, Bool.or_true, vAppend, elems, ↓reduceDIte, List.take_length, Nat.le_refl, List.drop_zero, vGuard, undef, Bool.not_eq_eq_eq_not, dstOk, vcOp, vcF, isPure, putS, vcCall, St.ev, St.put, lk, AVal.ofVal, initS, Nat.reduceLT, true_and, and_true, vBin, vUn, vPick, vPart, vLoad, vStore, vIdxA, vLen, vAlloc, vBox, vBuildSl, vSlice, bnd, partsA, fillA, decAll, AVal.flat, AVal.cell, cellsOk, setRange, ETy.enc, ETy.dec, ETy.sz, ETy.d, cond, Nat.reduceBEq, Nat.reduceAdd, Int.toNat_natCast, List.length_set, List.length_append, List.length_replicate, List.length_take, Nat.reduceSub, Nat.reduceEqDiff, get_loc, setBox_loc, next_eq, List.length_cons, List.length_nil, List.map_cons, List.map_nil, List.append_nil, List.nil_append, List.cons_append, List.set_cons_zero, List.set_cons_succ, getD_zero, getD_succ, List.getElem?_cons_succ, List.getElem?_cons_zero, List.take_succ_cons, List.take_zero, List.drop_succ_cons, List.all_cons, List.all_nil, Bool.and_true, Bool.true_and, Option.bind_some, Option.map_some, Option.map_none, decide_eq_true_eq, decide_eq_false_iff_not, ne_eq, Bool.not_eq_true, Bool.not_eq_false, Decidable.not_not, not_true_eq_false, not_false_eq_true, forall_const, false_implies, Bool.true_eq_false, Bool.false_eq_true, reduceCtorEq, decide_true, decide_false, Bool.not_true, Bool.not_false, if_true, if_false, Nat.zero_add, Nat.lt_irrefl, Value.oneCell', gt_iff_lt, Nat.reduceLeDiff, Nat.lt_add_one, vSealSl, vMakeMap, vLookup, vMapUpd, vMapEnt, vEntSt, vRange, vEntry, KK.of, KK.av, lkRes, entry_last, vvar_1, vzero_1, vvar_3, vzero_3, vknd_3, vsn_3, vvar_4, vzero_4, vknd_4, vsn_4, vvar_46, vzero_46, vbld_46, vpts_46, vsl_48, vkn_48, vvar_48, vzero_48, vvar_74, vzero_74, vvar_76, vzero_76, vmp_76, htt0, Int.toNat_zero, Int.reduceToNat, hop']; try simp (disch := omega) only [wrap64]) | (with_reducible refine hK' _ ?_; clear hK' K') | (with_reducible refine hK _ ?_; clear hK K) | (with_reducible first | refine vCall_pure (step58_ac t _ (by omega) (by omega) _) ?_ | refine vCall_pure (open44_ac m (stepTo t (i : Int)) hm _) ?_ | refine And.intro (And.intro rfl rfl) ?_ | refine And.intro (by omega) ?_) | (with_reducible refine And.intro (fun hg => ?_) (fun hg => ?_) <;> first | simp only [eq_false hg, rsB] | simp only [eq_true hg, rsB] | simp only [hg, rsB]) | (with_reducible first | refine And.intro rfl (And.intro rfl rfl) | refine thenQ_n ?_ | refine thenQ_exit ?_ | refine thenQ_ret ?_ | refine midQ_ret ?_ | refine midQ_exit ?_ | refine blockQ_same ?_ | refine blockQ_ne (by decide) ?_ | refine blockQ_ret ?_ | refine blockQ_n ?_ | refine AW.exit ?_ | refine AW.block ?_ | refine AW.cond_t rfl ?_ | refine AW.cond_f rfl ?_ | refine AW.cond_dec rfl (fun hc => ?_) (fun hc => ?_)) | (with_reducible refine AW.cond rfl (fun hc => ?_) (fun hc => ?_) <;> try simp only [Bool.not_eq_eq_eq_not, Bool.not_true, Bool.not_false, decide_eq_true_eq, decide_eq_false_iff_not] at hc) | (with_reducible first | refine AW.seq ?_ | refine AW.skip ?_ | refine AW.ret ?_ | refine And.intro ?_ ?_) | (with_reducible intro hg; first | simp only [eq_false hg, rsB] | simp only [eq_true hg, rsB]) | (with_reducible refine retQ_drop ?_; simp only [vRes, packRes, vLoad, vPart, lk, cond, Nat.reduceBEq, get_loc, getD_zero, getD_succ, true_and, List.length_cons, List.length_nil, Nat.reduceAdd, Nat.reduceLT, Nat.reduceLeDiff, List.take_succ_cons, List.take_zero, List.drop_succ_cons, List.drop_zero, vvar_1, vzero_1, vvar_3, vzero_3, vknd_3, vsn_3, vvar_4, vzero_4, vknd_4, vsn_4, vvar_46, vzero_46, vbld_46, vpts_46, vsl_48, vkn_48, vvar_48, vzero_48, vvar_74, vzero_74, vvar_76, vzero_76, vmp_76]) )
        all_goals first
          | (exfalso; omega)
          | skip
        refine ⟨((ks2, all2, off2, n2), i + 1), ⟨by simp only; omega, hy.toRcOk, hn, htt, fun j hj he => ?_, hy.mu⟩, by simp only; omega, (Weak.sel [0, 1] hB (by decide) (by (repeat' (first | exact trivial | exact RenB.plRow rfl | exact RenB.dead _ | exact RenB.map _ _ | exact RenB.iter rfl | refine And.intro ?_ ?_ | (refine RenB.plBox ?_; (repeat' (first | exact Pl.v _ | exact Pl.junk | exact Pl.rd rfl _ | exact pl_nil | refine pl_cons ?_ ?_ | refine Pl.agg ?_ | refine Pl.tup ?_ | refine Pl.rp ?_ | refine Pl.fn ?_)); (first | done | fail)) | refine RenB.of ?_ | exact RenV.ptr rfl | exact RenV.sl rfl | exact RenV.mp rfl | exact RenV.it rfl | exact RenV.low (IdsLt.mp (by assumption)) | (refine RenV.pl ?_; (repeat' (first | exact Pl.v _ | exact Pl.junk | exact Pl.rd rfl _ | exact pl_nil | refine pl_cons ?_ ?_ | refine Pl.agg ?_ | refine Pl.tup ?_ | refine Pl.rp ?_ | refine Pl.fn ?_)); (first | done | fail)) | refine RenV.aggL ?_ | refine RenV.fnL ?_ | exact Nat.lt_of_sub_pos (by decide) | (simp; (first | done | fail)))); (first | done | fail)) (by (repeat' (first | exact trivial | exact RenV.ptr rfl | exact RenV.sl rfl | exact RenV.mp rfl | exact RenV.it rfl | exact RenV.low (IdsLt.mp (by assumption)) | exact RenV.low (.v _) | exact RenV.low (IdsLt.ptr (by assumption)) | (refine RenV.pl ?_; (repeat' (first | exact Pl.v _ | exact Pl.junk | exact Pl.rd rfl _ | exact pl_nil | refine pl_cons ?_ ?_ | refine Pl.agg ?_ | refine Pl.tup ?_ | refine Pl.rp ?_ | refine Pl.fn ?_)); (first | done | fail)) | refine RenV.fnL ?_ | refine RenV.aggL ?_ | refine And.intro ?_ ?_)); (first | done | fail)))⟩
        by_cases e : j = i
        · subst e; exact absurd he hop
        · exact hsn j (by simp only at hj; omega) he
    · obtain rfl : i = 4 := by omega
      repeat' (first | (with_reducible first | refine AW.sreg envOk fun K hK => ?_ | refine AW.region envOk fun K hK => ?_ | refine vcL_nil ?_) | (with_reducible (first | refine vcL_cons fun K' hK' => ?_); simp only [isC, Bool.false_or, Bool.or_true, vAppend, elems, ↓reduceDIte, List.take_length, Nat.le_refl, List.drop_zero, vGuard, undef, Bool.not_eq_eq_eq_not, dstOk, vcOp, vcF, isPure, putS, vcCall, St.ev, St.put, lk, AVal.ofVal, initS, Nat.reduceLT, true_and, and_true, vBin, vUn, vPick, vPart, vLoad, vStore, vIdxA, vLen, vAlloc, vBox, vBuildSl, vSlice, bnd, partsA, fillA, decAll, AVal.flat, AVal.cell, cellsOk, setRange, ETy.enc, ETy.dec, ETy.sz, ETy.d, cond, Nat.reduceBEq, Nat.reduceAdd, Int.toNat_natCast, List.length_set, List.length_append, List.length_replicate, List.length_take, Nat.reduceSub, Nat.reduceEqDiff, get_loc, setBox_loc, next_eq, List.length_cons, List.length_nil, List.map_cons, List.map_nil, List.append_nil, List.nil_append, List.cons_append, List.set_cons_zero, List.set_cons_succ, getD_zero, getD_succ, List.getElem?_cons_succ, List.getElem?_cons_zero, List.take_succ_cons, List.take_zero, List.drop_succ_cons, List.all_cons, List.all_nil, Bool.and_true, Bool.true_and, Option.bind_some, Option.map_some, Option.map_none, decide_eq_true_eq, decide_eq_false_iff_not, ne_eq, Bool.not_eq_true, Bool.not_eq_false, Decidable.not_not, not_true_eq_false, not_false_eq_true, forall_const, false_implies, Bool.true_eq_false, Bool.false_eq_true, reduceCtorEq, decide_true, decide_false, Bool.not_true, Bool.not_false, if_true, if_false, Nat.zero_add, Nat.lt_irrefl, Value.oneCell', gt_iff_lt, Nat.reduceLeDiff, Nat.lt_add_one, vSealSl, vMakeMap, vLookup, vMapUpd, vMapEnt, vEntSt, vRange, vEntry, KK.of, KK.av, lkRes, entry_last, vvar_1, vzero_1, vvar_3, vzero_3, vknd_3, vsn_3, vvar_4, vzero_4, vknd_4, vsn_4, vvar_46, vzero_46, vbld_46, vpts_46, vsl_48, vkn_48, vvar_48, vzero_48, vvar_74, vzero_74, vvar_76, vzero_76, vmp_76, Int.reduceToNat]; try simp (disch := omega) only [wrap64]) | (with_reducible refine hK' _ ?_; clear hK' K') | (with_reducible refine hK _ ?_; clear hK K) | (with_reducible first | refine And.intro (And.intro rfl rfl) ?_ | refine And.intro (by omega) ?_) | (with_reducible refine And.intro (fun hg => ?_) (fun hg => ?_) <;> first | simp only [eq_false hg, rsB] | simp only [eq_true hg, rsB] | simp only [hg, rsB]) | (with_reducible first | refine And.intro rfl (And.intro rfl rfl) | refine thenQ_n ?_ | refine thenQ_exit ?_ | refine thenQ_ret ?_ | refine midQ_ret ?_ | refine midQ_exit ?_ | refine blockQ_same ?_ | refine blockQ_ne (by decide) ?_ | refine blockQ_ret ?_ | refine blockQ_n ?_ | refine AW.exit ?_ | refine AW.block ?_ | refine AW.cond_t rfl ?_ | refine AW.cond_f rfl ?_ | refine AW.cond_dec rfl (fun hc => ?_) (fun hc => ?_)) | (with_reducible refine AW.cond rfl (fun hc => ?_) (fun hc => ?_) <;> try simp only [Bool.not_eq_eq_eq_not, Bool.not_true, Bool.not_false, decide_eq_true_eq, decide_eq_false_iff_not] at hc) | (with_reducible first | refine AW.seq ?_ | refine AW.skip ?_ | refine AW.ret ?_ | refine And.intro ?_ ?_) | (with_reducible intro hg; first | simp only [eq_false hg, rsB] | simp only [eq_true hg, rsB]) | (with_reducible refine retQ_drop ?_; simp only [vRes, packRes, vLoad, vPart, lk, cond, Nat.reduceBEq, get_loc, getD_zero, getD_succ, true_and, List.length_cons, List.length_nil, Nat.reduceAdd, Nat.reduceLT, Nat.reduceLeDiff, List.take_succ_cons, List.take_zero, List.drop_succ_cons, List.drop_zero, vvar_1, vzero_1, vvar_3, vzero_3, vknd_3, vsn_3, vvar_4, vzero_4, vknd_4, vsn_4, vvar_46, vzero_46, vbld_46, vpts_46, vsl_48, vkn_48, vvar_48, vzero_48, vvar_74, vzero_74, vvar_76, vzero_76, vmp_76]) )
      all_goals first
        | (exfalso; omega)
        | skip
      have hb := hy.rch
      have hmu := hy.mu
      simp only [hdr] at hb hmu
      have hp := hb.pop (fun k hk ho => hsn k hk ho)
      refine ⟨(ks2, all2, off2 + 1, n2 - 1), ⟨hp, hy.nd, ?_, ?_, hall⟩, ?_, (Weak.slots (by repeat' first | exact trivial | exact ⟨rfl, trivial⟩ | refine ⟨rfl, ?_⟩))⟩
      · simp only; omega
      · simp only; omega
      · simp only; omega
  · obtain rfl : n = 0 := by omega
    repeat' (first | (with_reducible first | refine AW.sreg envOk fun K hK => ?_ | refine AW.region envOk fun K hK => ?_ | refine vcL_nil ?_) | (with_reducible (first | refine vcL_cons fun K' hK' => ?_); simp only [isC, Bool.false_or, Bool.or_true, vAppend, elems, ↓reduceDIte, List.take_length, Nat.le_refl, List.drop_zero, vGuard, undef, Bool.not_eq_eq_eq_not, dstOk, vcOp, vcF, isPure, putS, vcCall, St.ev, St.put, lk, AVal.ofVal, initS, Nat.reduceLT, true_and, and_true, vBin, vUn, vPick, vPart, vLoad, vStore, vIdxA, vLen, vAlloc, vBox, vBuildSl, vSlice, bnd, partsA, fillA, decAll, AVal.flat, AVal.cell, cellsOk, setRange, ETy.enc, ETy.dec, ETy.sz, ETy.d, cond, Nat.reduceBEq, Nat.reduceAdd, Int.toNat_natCast, List.length_set, List.length_append, List.length_replicate, List.length_take, Nat.reduceSub, Nat.reduceEqDiff, get_loc, setBox_loc, next_eq, List.length_cons, List.length_nil, List.map_cons, List.map_nil, List.append_nil, List.nil_append, List.cons_append, List.set_cons_zero, List.set_cons_succ, getD_zero, getD_succ, List.getElem?_cons_succ, List.getElem?_cons_zero, List.take_succ_cons, List.take_zero, List.drop_succ_cons, List.all_cons, List.all_nil, Bool.and_true, Bool.true_and, Option.bind_some, Option.map_some, Option.map_none, decide_eq_true_eq, decide_eq_false_iff_not, ne_eq, Bool.not_eq_true, Bool.not_eq_false, Decidable.not_not, not_true_eq_false, not_false_eq_true, forall_const, false_implies, Bool.true_eq_false, Bool.false_eq_true, reduceCtorEq, decide_true, decide_false, Bool.not_true, Bool.not_false, if_true, if_false, Nat.zero_add, Nat.lt_irrefl, Value.oneCell', gt_iff_lt, Nat.reduceLeDiff, Nat.lt_add_one, vSealSl, vMakeMap, vLookup, vMapUpd, vMapEnt, vEntSt, vRange, vEntry, KK.of, KK.av, lkRes, entry_last, vvar_1, vzero_1, vvar_3, vzero_3, vknd_3, vsn_3, vvar_4, vzero_4, vknd_4, vsn_4, vvar_46, vzero_46, vbld_46, vpts_46, vsl_48, vkn_48, vvar_48, vzero_48, vvar_74, vzero_74, vvar_76, vzero_76, vmp_76]; try simp (disch := omega) only [wrap64]) | (with_reducible refine hK' _ ?_; clear hK' K') | (with_reducible refine hK _ ?_; clear hK K) | (with_reducible first | refine And.intro (And.intro rfl rfl) ?_ | refine And.intro (by omega) ?_) | (with_reducible refine And.intro (fun hg => ?_) (fun hg => ?_) <;> first | simp only [eq_false hg, rsB] | simp only [eq_true hg, rsB] | simp only [hg, rsB]) | (with_reducible first | refine And.intro rfl (And.intro rfl rfl) | refine thenQ_n ?_ | refine thenQ_exit ?_ | refine thenQ_ret ?_ | refine midQ_ret ?_ | refine midQ_exit ?_ | refine blockQ_same ?_ | refine blockQ_ne (by decide) ?_ | refine blockQ_ret ?_ | refine blockQ_n ?_ | refine AW.exit ?_ | refine AW.block ?_ | refine AW.cond_t rfl ?_ | refine AW.cond_f rfl ?_ | refine AW.cond_dec rfl (fun hc => ?_) (fun hc => ?_)) | (with_reducible refine AW.cond rfl (fun hc => ?_) (fun hc => ?_) <;> try simp only [Bool.not_eq_eq_eq_not, Bool.not_true, Bool.not_false, decide_eq_true_eq, decide_eq_false_iff_not] at hc) | (with_reducible first | refine AW.seq ?_ | refine AW.skip ?_ | refine AW.ret ?_ | refine And.intro ?_ ?_) | (with_reducible intro hg; first | simp only [eq_false hg, rsB] | simp only [eq_true hg, rsB]) | (with_reducible refine retQ_drop ?_; simp only [vRes, packRes, vLoad, vPart, lk, cond, Nat.reduceBEq, get_loc, getD_zero, getD_succ, true_and, List.length_cons, List.length_nil, Nat.reduceAdd, Nat.reduceLT, Nat.reduceLeDiff, List.take_succ_cons, List.take_zero, List.drop_succ_cons, List.drop_zero, vvar_1, vzero_1, vvar_3, vzero_3, vknd_3, vsn_3, vvar_4, vzero_4, vknd_4, vsn_4, vvar_46, vzero_46, vbld_46, vpts_46, vsl_48, vkn_48, vvar_48, vzero_48, vvar_74, vzero_74, vvar_76, vzero_76, vmp_76]) )
    all_goals first
      | (exfalso; omega)
      | skip
    have hb := hz.rch
    simp only at hb
    rw [List.drop_of_length_le (by omega)] at hb
    exact ⟨_, _, FinOk.keep [0] (L := [.map .pt (entP ks)]) hB (by decide) ⟨RenB.map _ _, by simp, trivial⟩ (RenV.mp (j := 0) rfl), ks, ⟨hz.nd, hb.all⟩, rfl, rfl⟩
end Go.Proofs.YtmkcahfhnehanaaDoor
end
section
set_option linter.unusedSimpArgs false
set_option linter.unusedVariables false
set_option maxHeartbeats 2000000
namespace Go.Proofs.YtmkcahfhnehanaaDoor
open Go.Eng
/-- The number of a cell. -/
def ixP (m : Mz) (p : Pt) : Int := p.2 * (width m : Int) + p.1
theorem ixP_bnd {m : Mz} {p : Pt} (h : InMz m p) : 0 ≤ ixP m p ∧ (ixP m p).toNat < m.length * width m := by
  obtain ⟨⟨a, b⟩, c, d⟩ := h
  unfold ixP
  have h1 : 0 ≤ p.2 * (width m : Int) := Int.mul_nonneg a (by omega)
  refine ⟨by omega, ?_⟩
  have h2 : p.2 * (width m : Int) ≤ ((m.length : Int) - 1) * (width m : Int) := Int.mul_le_mul_of_nonneg_right b (by omega)
  have h3 : ((m.length : Int) - 1) * (width m : Int) = (m.length : Int) * width m - width m := by rw [Int.sub_mul, Int.one_mul]
  have h4 : ((m.length * width m : Nat) : Int) = (m.length : Int) * width m := by simp
  omega
theorem ixP_inj {m : Mz} {p q : Pt} (hp : InMz m p) (hq : InMz m q) (h : ixP m p = ixP m q) : p = q := by
  obtain ⟨⟨a, b⟩, c, d⟩ := hp
  obtain ⟨⟨a', b'⟩, c', d'⟩ := hq
  unfold ixP at h
  have hw : 0 < (width m : Int) := by omega
  have e1 : (p.2 * (width m : Int) + p.1) / (width m : Int) = p.2 := by
    rw [Int.add_comm, Int.add_mul_ediv_right _ _ (by omega), Int.ediv_eq_zero_of_lt c (by omega), Int.zero_add]
  have e2 : (q.2 * (width m : Int) + q.1) / (width m : Int) = q.2 := by
    rw [Int.add_comm, Int.add_mul_ediv_right _ _ (by omega), Int.ediv_eq_zero_of_lt c' (by omega), Int.zero_add]
  have e3 : p.2 = q.2 := by rw [← e1, ← e2, h]
  have e4 : p.1 = q.1 := by rw [e3] at h; omega
  exact Prod.ext e4 e3
/-- Marked in a list of cells. -/
def Mk (m : Mz) (bs : List Bool) (q : Pt) : Prop := InMz m q ∧ bs.getD (ixP m q).toNat false = true
theorem Mk.set {m : Mz} {bs : List Bool} {p : Pt} (hl : bs.length = m.length * width m) (hp : InMz m p) (q : Pt) : Mk m (bs.set (ixP m p).toNat true) q ↔ Mk m bs q ∨ q = p := by
  have hb := ixP_bnd hp
  constructor
  · rintro ⟨h1, h2⟩
    by_cases e : q = p
    · exact .inr e
    · refine .inl ⟨h1, ?_⟩
      have hne : (ixP m p).toNat ≠ (ixP m q).toNat := fun h => e (ixP_inj h1 hp (by have := (ixP_bnd h1).1; omega))
      simp only [List.getD] at h2 ⊢
      rwa [List.getElem?_set_ne hne] at h2
  · rintro (⟨h1, h2⟩ | rfl)
    · refine ⟨h1, ?_⟩
      by_cases e : (ixP m p).toNat = (ixP m q).toNat
      · simp only [List.getD]; rw [e, List.getElem?_set_self (by omega)]; rfl
      · simp only [List.getD] at h2 ⊢; rwa [List.getElem?_set_ne e]
    · refine ⟨hp, ?_⟩
      simp only [List.getD]; rw [List.getElem?_set_self (by omega)]; rfl
theorem Mk.none {m : Mz} {n : Nat} {q : Pt} : ¬ Mk m (List.replicate n false) q := by
  rintro ⟨_, h⟩
  simp only [List.getD, List.getElem?_replicate] at h
  split at h <;> simp at h
theorem wid_pos {m : Mz} (hm : MzOk m) : (1 ≤ m.length ∧ m.length ≤ 12) ∧ 1 ≤ width m ∧ width m ≤ 12 := ⟨hm.1, hm.2.1⟩
/-- A search of the reference stands here: the marks, the list, and the place in it. -/
structure RsOk (m : Mz) (f : Pt) (z : List Bool × List Pt × Nat) : Prop where
  rch : Rch m f (fun q => Mk m z.1 q) (z.2.1.drop z.2.2)
  len : z.1.length = m.length * width m
  nd : z.2.1.Nodup
  sub : ∀ q ∈ z.2.1, Mk m z.1 q
  le : z.2.2 ≤ z.2.1.length
structure RsIn (m : Mz) (f t : Pt) (z : List Bool × List Pt × Nat) (i : Nat) : Prop extends RsOk m f z where
  pos : z.2.2 < z.2.1.length
  hd : z.2.1.getD z.2.2 (0, 0) = t
  seen : ∀ k : Nat, k < i → OpenAt m (stepTo t (k : Int)) → Mk m z.1 (stepTo t (k : Int))
end Go.Proofs.YtmkcahfhnehanaaDoor
end
