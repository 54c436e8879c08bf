/- Texts of this seat that the law stands on, put together. No conditions. -/
import Derived.Test.YtlfhhgfhoddgpaaProg
import Derived.KernelRfl
import Derived.Test.YtlfhhgfhoddgpaaX7
section
namespace Go.Proofs.Ytlfhhgfhoddgpaa
open Go.Eng
def eSl : TypeId → Option ETy
  | 22 => some (.int .u8)
  | 24 => some (.sli .i64)
  | 35 => some (.int .i64)
  | 36 => some (.pt)
  | 83 => some (.st)
  | 99 => some (.int .i64)
  | _ => none
def eVar : TypeId → Option (Bool × Nat)
  | 1 => some (false, 1)
  | 2 => some (false, 1)
  | 3 => some (false, 1)
  | 4 => some (false, 1)
  | 5 => some (false, 1)
  | 6 => some (false, 1)
  | 7 => some (true, 4)
  | 8 => some (true, 4)
  | 9 => some (false, 1)
  | 10 => some (false, 1)
  | 11 => some (false, 1)
  | 12 => some (false, 1)
  | 13 => some (true, 2)
  | 14 => some (true, 2)
  | 15 => some (false, 1)
  | 16 => some (false, 1)
  | 17 => some (false, 1)
  | 18 => some (true, 1)
  | 19 => some (true, 1)
  | 21 => some (false, 1)
  | 22 => some (false, 1)
  | 23 => some (false, 1)
  | 24 => some (false, 1)
  | 25 => some (true, 1)
  | 26 => some (true, 1)
  | 27 => some (false, 1)
  | 28 => some (true, 2)
  | 29 => some (true, 2)
  | 30 => some (false, 1)
  | 31 => some (false, 1)
  | 33 => some (false, 1)
  | 34 => some (false, 1)
  | 35 => some (false, 1)
  | 36 => some (false, 1)
  | 38 => some (false, 1)
  | 39 => some (false, 1)
  | 40 => some (false, 1)
  | 42 => some (false, 1)
  | 44 => some (false, 1)
  | 45 => some (false, 1)
  | 46 => some (false, 1)
  | 48 => some (false, 1)
  | 49 => some (false, 1)
  | 50 => some (false, 1)
  | 51 => some (false, 1)
  | 52 => some (false, 1)
  | 53 => some (false, 1)
  | 54 => some (false, 1)
  | 55 => some (false, 1)
  | 56 => some (false, 1)
  | 57 => some (false, 1)
  | 58 => some (false, 1)
  | 59 => some (false, 1)
  | 60 => some (false, 1)
  | 61 => some (false, 1)
  | 62 => some (false, 1)
  | 63 => some (false, 1)
  | 64 => some (false, 1)
  | 65 => some (false, 1)
  | 66 => some (true, 3)
  | 67 => some (true, 3)
  | 69 => some (false, 1)
  | 70 => some (false, 1)
  | 71 => some (false, 1)
  | 72 => some (false, 1)
  | 73 => some (false, 1)
  | 74 => some (false, 1)
  | 75 => some (false, 1)
  | 76 => some (true, 3)
  | 77 => some (true, 3)
  | 78 => some (false, 1)
  | 79 => some (false, 1)
  | 80 => some (false, 1)
  | 81 => some (false, 1)
  | 82 => some (false, 1)
  | 83 => some (false, 1)
  | 84 => some (false, 1)
  | 85 => some (false, 1)
  | 86 => some (false, 1)
  | 87 => some (false, 1)
  | 88 => some (false, 1)
  | 89 => some (false, 1)
  | 91 => some (false, 1)
  | 92 => some (false, 1)
  | 93 => some (false, 1)
  | 95 => some (false, 1)
  | 96 => some (false, 1)
  | 97 => some (false, 1)
  | 98 => some (false, 1)
  | 99 => some (false, 1)
  | 100 => some (false, 1)
  | 101 => some (false, 1)
  | 102 => some (false, 1)
  | 103 => some (false, 1)
  | 104 => some (false, 1)
  | 105 => some (false, 1)
  | 106 => some (false, 1)
  | 108 => some (false, 1)
  | 109 => some (false, 1)
  | 110 => some (true, 4)
  | 111 => some (true, 4)
  | 115 => some (false, 1)
  | 116 => some (false, 1)
  | 117 => some (false, 1)
  | 118 => some (false, 1)
  | 119 => some (false, 1)
  | 120 => some (false, 1)
  | 121 => some (false, 1)
  | 122 => some (true, 11)
  | 123 => some (true, 11)
  | _ => none
def eFld : TypeId → Nat → Option Nat
  | 7, 0 => some 0
  | 7, 1 => some 1
  | 7, 2 => some 2
  | 7, 3 => some 3
  | 8, 0 => some 0
  | 8, 1 => some 1
  | 8, 2 => some 2
  | 8, 3 => some 3
  | 13, 0 => some 0
  | 13, 1 => some 1
  | 14, 0 => some 0
  | 14, 1 => some 1
  | 18, 0 => some 0
  | 19, 0 => some 0
  | 25, 0 => some 0
  | 26, 0 => some 0
  | 28, 0 => some 0
  | 28, 1 => some 1
  | 29, 0 => some 0
  | 29, 1 => some 1
  | 66, 0 => some 0
  | 66, 1 => some 2
  | 67, 0 => some 0
  | 67, 1 => some 2
  | 76, 0 => some 0
  | 76, 1 => some 1
  | 76, 2 => some 2
  | 77, 0 => some 0
  | 77, 1 => some 1
  | 77, 2 => some 2
  | 110, 0 => some 0
  | 110, 1 => some 1
  | 110, 2 => some 2
  | 110, 3 => some 3
  | 111, 0 => some 0
  | 111, 1 => some 1
  | 111, 2 => some 2
  | 111, 3 => some 3
  | 122, 0 => some 0
  | 122, 1 => some 1
  | 122, 2 => some 2
  | 122, 3 => some 3
  | 122, 4 => some 4
  | 122, 5 => some 5
  | 122, 6 => some 6
  | 122, 7 => some 7
  | 122, 8 => some 8
  | 122, 9 => some 9
  | 122, 10 => some 10
  | 123, 0 => some 0
  | 123, 1 => some 1
  | 123, 2 => some 2
  | 123, 3 => some 3
  | 123, 4 => some 4
  | 123, 5 => some 5
  | 123, 6 => some 6
  | 123, 7 => some 7
  | 123, 8 => some 8
  | 123, 9 => some 9
  | 123, 10 => some 10
  | _, _ => none
def eZero : TypeId → Option (List Value)
  | 1 => some [.nilFunc]
  | 2 => some [.int .i64 0]
  | 3 => some [.int .i64 0]
  | 4 => some [.bool false]
  | 5 => some [.int .u8 0]
  | 6 => some [.int .u8 0]
  | 7 => some [.int .i64 0, .int .i64 0, .bool false, .int .u8 0]
  | 8 => some [.int .i64 0, .int .i64 0, .bool false, .int .u8 0]
  | 9 => some [.string ByteArray.empty]
  | 10 => some [.string ByteArray.empty]
  | 11 => some [.string ByteArray.empty]
  | 12 => some [.int .u64 0]
  | 13 => some [.string ByteArray.empty, .int .u64 0]
  | 14 => some [.string ByteArray.empty, .int .u64 0]
  | 15 => some [.pointer none]
  | 16 => some [.pointer none]
  | 17 => some [.pointer none]
  | 18 => some [.pointer none]
  | 19 => some [.pointer none]
  | 21 => some [.int .i32 0]
  | 22 => some [.slice none 0 0]
  | 23 => some [.nilFunc]
  | 24 => some [.slice none 0 0]
  | 25 => some [.slice none 0 0]
  | 26 => some [.slice none 0 0]
  | 27 => some [.nilFunc]
  | 28 => some [.int .i64 0, .int .i64 0]
  | 29 => some [.int .i64 0, .int .i64 0]
  | 30 => some [.nilFunc]
  | 31 => some [.nilFunc]
  | 33 => some [.nilFunc]
  | 34 => some [.nilFunc]
  | 35 => some [.slice none 0 0]
  | 36 => some [.slice none 0 0]
  | 38 => some [.nilFunc]
  | 39 => some [.nilFunc]
  | 40 => some [.nilFunc]
  | 42 => some [.nilFunc]
  | 44 => some [.nilFunc]
  | 45 => some [.nilFunc]
  | 46 => some [.nilFunc]
  | 48 => some [.nilFunc]
  | 49 => some [.int .u64 0]
  | 50 => some [.pointer none]
  | 51 => some [.nilFunc]
  | 52 => some [.nilFunc]
  | 53 => some [.nilFunc]
  | 54 => some [.nilFunc]
  | 55 => some [.pointer none]
  | 56 => some [.nilFunc]
  | 57 => some [.nilFunc]
  | 58 => some [.nilFunc]
  | 59 => some [.nilFunc]
  | 60 => some [.nilFunc]
  | 61 => some [.nilFunc]
  | 62 => some [.nilFunc]
  | 63 => some [.nilFunc]
  | 64 => some [.map none]
  | 65 => some [.nilFunc]
  | 66 => some [.int .i64 0, .int .i64 0, .int .i64 0]
  | 67 => some [.int .i64 0, .int .i64 0, .int .i64 0]
  | 69 => some [.nilFunc]
  | 70 => some [.nilFunc]
  | 71 => some [.nilFunc]
  | 72 => some [.nilFunc]
  | 73 => some [.map none]
  | 74 => some [.nilFunc]
  | 75 => some [.int .u64 0]
  | 76 => some [.slice none 0 0, .int .i64 0, .int .u64 0]
  | 77 => some [.slice none 0 0, .int .i64 0, .int .u64 0]
  | 78 => some [.nilFunc]
  | 79 => some [.nilFunc]
  | 80 => some [.nilFunc]
  | 81 => some [.nilFunc]
  | 82 => some [.nilFunc]
  | 83 => some [.slice none 0 0]
  | 84 => some [.nilFunc]
  | 85 => some [.nilFunc]
  | 86 => some [.nilFunc]
  | 87 => some [.nilFunc]
  | 88 => some [.nilFunc]
  | 89 => some [.int .i64 0]
  | 91 => some [.nilFunc]
  | 92 => some [.nilFunc]
  | 93 => some [.nilFunc]
  | 95 => some [.nilFunc]
  | 96 => some [.nilFunc]
  | 97 => some [.int .u32 0]
  | 98 => some [.nilFunc]
  | 99 => some [.slice none 0 0]
  | 100 => some [.int .u64 0]
  | 101 => some [.nilFunc]
  | 102 => some [.nilFunc]
  | 103 => some [.nilFunc]
  | 104 => some [.pointer none]
  | 105 => some [.nilFunc]
  | 106 => some [.pointer none]
  | 108 => some [.nilFunc]
  | 109 => some [.nilFunc]
  | 110 => some [.pointer none, .pointer none, .pointer none, .string ByteArray.empty]
  | 111 => some [.pointer none, .pointer none, .pointer none, .string ByteArray.empty]
  | 115 => some [.nilFunc]
  | 116 => some [.int .u8 0]
  | 117 => some [.int .u8 0]
  | 118 => some [.nilFunc]
  | 119 => some [.pointer none]
  | 120 => some [.int .i32 0]
  | 121 => some [.int .i32 0]
  | 122 => some [.int .u64 0, .int .u64 0, .int .u32 0, .int .u8 0, .int .u8 0, .int .u8 0, .int .u8 0, .nilFunc, .pointer none, .int .i32 0, .int .i32 0]
  | 123 => some [.int .u64 0, .int .u64 0, .int .u32 0, .int .u8 0, .int .u8 0, .int .u8 0, .int .u8 0, .nilFunc, .pointer none, .int .i32 0, .int .i32 0]
  | _ => none
def eKnd : TypeId → Option TypeDesc
  | 2 => some (.int .i64)
  | 3 => some (.int .i64)
  | 4 => some (.bool)
  | 5 => some (.int .u8)
  | 6 => some (.int .u8)
  | 9 => some (.string)
  | 10 => some (.string)
  | 11 => some (.string)
  | 12 => some (.int .u64)
  | 21 => some (.int .i32)
  | 49 => some (.int .u64)
  | 75 => some (.int .u64)
  | 89 => some (.int .i64)
  | 97 => some (.int .u32)
  | 100 => some (.int .u64)
  | 116 => some (.int .u8)
  | 117 => some (.int .u8)
  | 120 => some (.int .i32)
  | 121 => some (.int .i32)
  | _ => none
def eBld : TypeId → Option (List (Nat × Nat))
  | 7 => some [(0, 1), (1, 1), (2, 1), (3, 1)]
  | 8 => some [(0, 1), (1, 1), (2, 1), (3, 1)]
  | 13 => some [(0, 1), (1, 1)]
  | 14 => some [(0, 1), (1, 1)]
  | 18 => some [(0, 1)]
  | 19 => some [(0, 1)]
  | 25 => some [(0, 1)]
  | 26 => some [(0, 1)]
  | 28 => some [(0, 1), (1, 1)]
  | 29 => some [(0, 1), (1, 1)]
  | 66 => some [(0, 2), (2, 1)]
  | 67 => some [(0, 2), (2, 1)]
  | 76 => some [(0, 1), (1, 1), (2, 1)]
  | 77 => some [(0, 1), (1, 1), (2, 1)]
  | 110 => some [(0, 1), (1, 1), (2, 1), (3, 1)]
  | 111 => some [(0, 1), (1, 1), (2, 1), (3, 1)]
  | 122 => some [(0, 1), (1, 1), (2, 1), (3, 1), (4, 1), (5, 1), (6, 1), (7, 1), (8, 1), (9, 1), (10, 1)]
  | 123 => some [(0, 1), (1, 1), (2, 1), (3, 1), (4, 1), (5, 1), (6, 1), (7, 1), (8, 1), (9, 1), (10, 1)]
  | _ => none
def ePts : TypeId → Bool
  | 28 => true
  | 29 => true
  | _ => false
def eMp : TypeId → Option (KK × Value)
  | 64 => some (.st, .int .i64 0)
  | 73 => some (.pt, .bool false)
  | _ => none
def eByt : TypeId → Bool
  | 22 => true
  | _ => false
def eIfc : TypeId → Bool
  | 20 => true
  | _ => false
def env : Env := { sl := eSl, var := eVar, fld := eFld, zero := eZero, knd := eKnd, bld := eBld, pts := ePts, mp := eMp, byt := eByt, ifc := eIfc }
theorem info1 : (Try.prog.info? 1).map (fun i => (i.zero, i.size, i.bytes)) = some (some (.nilFunc), 1, 8) := by kernel_rfl
theorem info2 : (Try.prog.info? 2).map (fun i => (i.zero, i.size, i.bytes)) = some (some (.int .i64 0), 1, 8) := by kernel_rfl
theorem info3 : (Try.prog.info? 3).map (fun i => (i.zero, i.size, i.bytes)) = some (some (.int .i64 0), 1, 8) := by kernel_rfl
theorem info4 : (Try.prog.info? 4).map (fun i => (i.zero, i.size, i.bytes)) = some (some (.bool false), 1, 1) := by kernel_rfl
theorem info5 : (Try.prog.info? 5).map (fun i => (i.zero, i.size, i.bytes)) = some (some (.int .u8 0), 1, 1) := by kernel_rfl
theorem info6 : (Try.prog.info? 6).map (fun i => (i.zero, i.size, i.bytes)) = some (some (.int .u8 0), 1, 1) := by kernel_rfl
theorem info7 : (Try.prog.info? 7).map (fun i => (i.zero, i.size, i.bytes)) = some (some (.agg #[.int .i64 0, .int .i64 0, .bool false, .int .u8 0]), 4, 24) := by kernel_rfl
theorem info8 : (Try.prog.info? 8).map (fun i => (i.zero, i.size, i.bytes)) = some (some (.agg #[.int .i64 0, .int .i64 0, .bool false, .int .u8 0]), 4, 24) := by kernel_rfl
theorem info9 : (Try.prog.info? 9).map (fun i => (i.zero, i.size, i.bytes)) = some (some (.string ByteArray.empty), 1, 16) := by kernel_rfl
theorem info10 : (Try.prog.info? 10).map (fun i => (i.zero, i.size, i.bytes)) = some (some (.string ByteArray.empty), 1, 16) := by kernel_rfl
theorem info11 : (Try.prog.info? 11).map (fun i => (i.zero, i.size, i.bytes)) = some (some (.string ByteArray.empty), 1, 16) := by kernel_rfl
theorem info12 : (Try.prog.info? 12).map (fun i => (i.zero, i.size, i.bytes)) = some (some (.int .u64 0), 1, 8) := by kernel_rfl
theorem info13 : (Try.prog.info? 13).map (fun i => (i.zero, i.size, i.bytes)) = some (some (.agg #[.string ByteArray.empty, .int .u64 0]), 2, 24) := by kernel_rfl
theorem info14 : (Try.prog.info? 14).map (fun i => (i.zero, i.size, i.bytes)) = some (some (.agg #[.string ByteArray.empty, .int .u64 0]), 2, 24) := by kernel_rfl
theorem info15 : (Try.prog.info? 15).map (fun i => (i.zero, i.size, i.bytes)) = some (some (.pointer none), 1, 8) := by kernel_rfl
theorem info16 : (Try.prog.info? 16).map (fun i => (i.zero, i.size, i.bytes)) = some (some (.pointer none), 1, 8) := by kernel_rfl
theorem info17 : (Try.prog.info? 17).map (fun i => (i.zero, i.size, i.bytes)) = some (some (.pointer none), 1, 8) := by kernel_rfl
theorem info18 : (Try.prog.info? 18).map (fun i => (i.zero, i.size, i.bytes)) = some (some (.agg #[.pointer none]), 1, 8) := by kernel_rfl
theorem info19 : (Try.prog.info? 19).map (fun i => (i.zero, i.size, i.bytes)) = some (some (.agg #[.pointer none]), 1, 8) := by kernel_rfl
theorem info21 : (Try.prog.info? 21).map (fun i => (i.zero, i.size, i.bytes)) = some (some (.int .i32 0), 1, 4) := by kernel_rfl
theorem info22 : (Try.prog.info? 22).map (fun i => (i.zero, i.size, i.bytes)) = some (some (.slice none 0 0), 1, 24) := by kernel_rfl
theorem info23 : (Try.prog.info? 23).map (fun i => (i.zero, i.size, i.bytes)) = some (some (.nilFunc), 1, 8) := by kernel_rfl
theorem info24 : (Try.prog.info? 24).map (fun i => (i.zero, i.size, i.bytes)) = some (some (.slice none 0 0), 1, 24) := by kernel_rfl
theorem info25 : (Try.prog.info? 25).map (fun i => (i.zero, i.size, i.bytes)) = some (some (.agg #[.slice none 0 0]), 1, 24) := by kernel_rfl
theorem info26 : (Try.prog.info? 26).map (fun i => (i.zero, i.size, i.bytes)) = some (some (.agg #[.slice none 0 0]), 1, 24) := by kernel_rfl
theorem info27 : (Try.prog.info? 27).map (fun i => (i.zero, i.size, i.bytes)) = some (some (.nilFunc), 1, 8) := by kernel_rfl
theorem info28 : (Try.prog.info? 28).map (fun i => (i.zero, i.size, i.bytes)) = some (some (.agg #[.int .i64 0, .int .i64 0]), 2, 16) := by kernel_rfl
theorem info29 : (Try.prog.info? 29).map (fun i => (i.zero, i.size, i.bytes)) = some (some (.agg #[.int .i64 0, .int .i64 0]), 2, 16) := by kernel_rfl
theorem info30 : (Try.prog.info? 30).map (fun i => (i.zero, i.size, i.bytes)) = some (some (.nilFunc), 1, 8) := by kernel_rfl
theorem info31 : (Try.prog.info? 31).map (fun i => (i.zero, i.size, i.bytes)) = some (some (.nilFunc), 1, 8) := by kernel_rfl
theorem info33 : (Try.prog.info? 33).map (fun i => (i.zero, i.size, i.bytes)) = some (some (.nilFunc), 1, 8) := by kernel_rfl
theorem info34 : (Try.prog.info? 34).map (fun i => (i.zero, i.size, i.bytes)) = some (some (.nilFunc), 1, 8) := by kernel_rfl
theorem info35 : (Try.prog.info? 35).map (fun i => (i.zero, i.size, i.bytes)) = some (some (.slice none 0 0), 1, 24) := by kernel_rfl
theorem info36 : (Try.prog.info? 36).map (fun i => (i.zero, i.size, i.bytes)) = some (some (.slice none 0 0), 1, 24) := by kernel_rfl
theorem info38 : (Try.prog.info? 38).map (fun i => (i.zero, i.size, i.bytes)) = some (some (.nilFunc), 1, 8) := by kernel_rfl
theorem info39 : (Try.prog.info? 39).map (fun i => (i.zero, i.size, i.bytes)) = some (some (.nilFunc), 1, 8) := by kernel_rfl
theorem info40 : (Try.prog.info? 40).map (fun i => (i.zero, i.size, i.bytes)) = some (some (.nilFunc), 1, 8) := by kernel_rfl
theorem info42 : (Try.prog.info? 42).map (fun i => (i.zero, i.size, i.bytes)) = some (some (.nilFunc), 1, 8) := by kernel_rfl
theorem info44 : (Try.prog.info? 44).map (fun i => (i.zero, i.size, i.bytes)) = some (some (.nilFunc), 1, 8) := by kernel_rfl
theorem info45 : (Try.prog.info? 45).map (fun i => (i.zero, i.size, i.bytes)) = some (some (.nilFunc), 1, 8) := by kernel_rfl
theorem info46 : (Try.prog.info? 46).map (fun i => (i.zero, i.size, i.bytes)) = some (some (.nilFunc), 1, 8) := by kernel_rfl
theorem info48 : (Try.prog.info? 48).map (fun i => (i.zero, i.size, i.bytes)) = some (some (.nilFunc), 1, 8) := by kernel_rfl
theorem info49 : (Try.prog.info? 49).map (fun i => (i.zero, i.size, i.bytes)) = some (some (.int .u64 0), 1, 8) := by kernel_rfl
theorem info50 : (Try.prog.info? 50).map (fun i => (i.zero, i.size, i.bytes)) = some (some (.pointer none), 1, 8) := by kernel_rfl
theorem info51 : (Try.prog.info? 51).map (fun i => (i.zero, i.size, i.bytes)) = some (some (.nilFunc), 1, 8) := by kernel_rfl
theorem info52 : (Try.prog.info? 52).map (fun i => (i.zero, i.size, i.bytes)) = some (some (.nilFunc), 1, 8) := by kernel_rfl
theorem info53 : (Try.prog.info? 53).map (fun i => (i.zero, i.size, i.bytes)) = some (some (.nilFunc), 1, 8) := by kernel_rfl
theorem info54 : (Try.prog.info? 54).map (fun i => (i.zero, i.size, i.bytes)) = some (some (.nilFunc), 1, 8) := by kernel_rfl
theorem info55 : (Try.prog.info? 55).map (fun i => (i.zero, i.size, i.bytes)) = some (some (.pointer none), 1, 8) := by kernel_rfl
theorem info56 : (Try.prog.info? 56).map (fun i => (i.zero, i.size, i.bytes)) = some (some (.nilFunc), 1, 8) := by kernel_rfl
theorem info57 : (Try.prog.info? 57).map (fun i => (i.zero, i.size, i.bytes)) = some (some (.nilFunc), 1, 8) := by kernel_rfl
theorem info58 : (Try.prog.info? 58).map (fun i => (i.zero, i.size, i.bytes)) = some (some (.nilFunc), 1, 8) := by kernel_rfl
theorem info59 : (Try.prog.info? 59).map (fun i => (i.zero, i.size, i.bytes)) = some (some (.nilFunc), 1, 8) := by kernel_rfl
theorem info60 : (Try.prog.info? 60).map (fun i => (i.zero, i.size, i.bytes)) = some (some (.nilFunc), 1, 8) := by kernel_rfl
theorem info61 : (Try.prog.info? 61).map (fun i => (i.zero, i.size, i.bytes)) = some (some (.nilFunc), 1, 8) := by kernel_rfl
theorem info62 : (Try.prog.info? 62).map (fun i => (i.zero, i.size, i.bytes)) = some (some (.nilFunc), 1, 8) := by kernel_rfl
theorem info63 : (Try.prog.info? 63).map (fun i => (i.zero, i.size, i.bytes)) = some (some (.nilFunc), 1, 8) := by kernel_rfl
theorem info64 : (Try.prog.info? 64).map (fun i => (i.zero, i.size, i.bytes)) = some (some (.map none), 1, 8) := by kernel_rfl
theorem info65 : (Try.prog.info? 65).map (fun i => (i.zero, i.size, i.bytes)) = some (some (.nilFunc), 1, 8) := by kernel_rfl
theorem info66 : (Try.prog.info? 66).map (fun i => (i.zero, i.size, i.bytes)) = some (some (.agg #[.int .i64 0, .int .i64 0, .int .i64 0]), 3, 24) := by kernel_rfl
theorem info67 : (Try.prog.info? 67).map (fun i => (i.zero, i.size, i.bytes)) = some (some (.agg #[.int .i64 0, .int .i64 0, .int .i64 0]), 3, 24) := by kernel_rfl
theorem info69 : (Try.prog.info? 69).map (fun i => (i.zero, i.size, i.bytes)) = some (some (.nilFunc), 1, 8) := by kernel_rfl
theorem info70 : (Try.prog.info? 70).map (fun i => (i.zero, i.size, i.bytes)) = some (some (.nilFunc), 1, 8) := by kernel_rfl
theorem info71 : (Try.prog.info? 71).map (fun i => (i.zero, i.size, i.bytes)) = some (some (.nilFunc), 1, 8) := by kernel_rfl
theorem info72 : (Try.prog.info? 72).map (fun i => (i.zero, i.size, i.bytes)) = some (some (.nilFunc), 1, 8) := by kernel_rfl
theorem info73 : (Try.prog.info? 73).map (fun i => (i.zero, i.size, i.bytes)) = some (some (.map none), 1, 8) := by kernel_rfl
theorem info74 : (Try.prog.info? 74).map (fun i => (i.zero, i.size, i.bytes)) = some (some (.nilFunc), 1, 8) := by kernel_rfl
theorem info75 : (Try.prog.info? 75).map (fun i => (i.zero, i.size, i.bytes)) = some (some (.int .u64 0), 1, 8) := by kernel_rfl
theorem info76 : (Try.prog.info? 76).map (fun i => (i.zero, i.size, i.bytes)) = some (some (.agg #[.slice none 0 0, .int .i64 0, .int .u64 0]), 3, 40) := by kernel_rfl
theorem info77 : (Try.prog.info? 77).map (fun i => (i.zero, i.size, i.bytes)) = some (some (.agg #[.slice none 0 0, .int .i64 0, .int .u64 0]), 3, 40) := by kernel_rfl
theorem info78 : (Try.prog.info? 78).map (fun i => (i.zero, i.size, i.bytes)) = some (some (.nilFunc), 1, 8) := by kernel_rfl
theorem info79 : (Try.prog.info? 79).map (fun i => (i.zero, i.size, i.bytes)) = some (some (.nilFunc), 1, 8) := by kernel_rfl
theorem info80 : (Try.prog.info? 80).map (fun i => (i.zero, i.size, i.bytes)) = some (some (.nilFunc), 1, 8) := by kernel_rfl
theorem info81 : (Try.prog.info? 81).map (fun i => (i.zero, i.size, i.bytes)) = some (some (.nilFunc), 1, 8) := by kernel_rfl
theorem info82 : (Try.prog.info? 82).map (fun i => (i.zero, i.size, i.bytes)) = some (some (.nilFunc), 1, 8) := by kernel_rfl
theorem info83 : (Try.prog.info? 83).map (fun i => (i.zero, i.size, i.bytes)) = some (some (.slice none 0 0), 1, 24) := by kernel_rfl
theorem info84 : (Try.prog.info? 84).map (fun i => (i.zero, i.size, i.bytes)) = some (some (.nilFunc), 1, 8) := by kernel_rfl
theorem info85 : (Try.prog.info? 85).map (fun i => (i.zero, i.size, i.bytes)) = some (some (.nilFunc), 1, 8) := by kernel_rfl
theorem info86 : (Try.prog.info? 86).map (fun i => (i.zero, i.size, i.bytes)) = some (some (.nilFunc), 1, 8) := by kernel_rfl
theorem info87 : (Try.prog.info? 87).map (fun i => (i.zero, i.size, i.bytes)) = some (some (.nilFunc), 1, 8) := by kernel_rfl
theorem info88 : (Try.prog.info? 88).map (fun i => (i.zero, i.size, i.bytes)) = some (some (.nilFunc), 1, 8) := by kernel_rfl
theorem info89 : (Try.prog.info? 89).map (fun i => (i.zero, i.size, i.bytes)) = some (some (.int .i64 0), 1, 8) := by kernel_rfl
theorem info91 : (Try.prog.info? 91).map (fun i => (i.zero, i.size, i.bytes)) = some (some (.nilFunc), 1, 8) := by kernel_rfl
theorem info92 : (Try.prog.info? 92).map (fun i => (i.zero, i.size, i.bytes)) = some (some (.nilFunc), 1, 8) := by kernel_rfl
theorem info93 : (Try.prog.info? 93).map (fun i => (i.zero, i.size, i.bytes)) = some (some (.nilFunc), 1, 8) := by kernel_rfl
theorem info95 : (Try.prog.info? 95).map (fun i => (i.zero, i.size, i.bytes)) = some (some (.nilFunc), 1, 8) := by kernel_rfl
theorem info96 : (Try.prog.info? 96).map (fun i => (i.zero, i.size, i.bytes)) = some (some (.nilFunc), 1, 8) := by kernel_rfl
theorem info97 : (Try.prog.info? 97).map (fun i => (i.zero, i.size, i.bytes)) = some (some (.int .u32 0), 1, 4) := by kernel_rfl
theorem info98 : (Try.prog.info? 98).map (fun i => (i.zero, i.size, i.bytes)) = some (some (.nilFunc), 1, 8) := by kernel_rfl
theorem info99 : (Try.prog.info? 99).map (fun i => (i.zero, i.size, i.bytes)) = some (some (.slice none 0 0), 1, 24) := by kernel_rfl
theorem info100 : (Try.prog.info? 100).map (fun i => (i.zero, i.size, i.bytes)) = some (some (.int .u64 0), 1, 8) := by kernel_rfl
theorem info101 : (Try.prog.info? 101).map (fun i => (i.zero, i.size, i.bytes)) = some (some (.nilFunc), 1, 8) := by kernel_rfl
theorem info102 : (Try.prog.info? 102).map (fun i => (i.zero, i.size, i.bytes)) = some (some (.nilFunc), 1, 8) := by kernel_rfl
theorem info103 : (Try.prog.info? 103).map (fun i => (i.zero, i.size, i.bytes)) = some (some (.nilFunc), 1, 8) := by kernel_rfl
theorem info104 : (Try.prog.info? 104).map (fun i => (i.zero, i.size, i.bytes)) = some (some (.pointer none), 1, 8) := by kernel_rfl
theorem info105 : (Try.prog.info? 105).map (fun i => (i.zero, i.size, i.bytes)) = some (some (.nilFunc), 1, 8) := by kernel_rfl
theorem info106 : (Try.prog.info? 106).map (fun i => (i.zero, i.size, i.bytes)) = some (some (.pointer none), 1, 8) := by kernel_rfl
theorem info108 : (Try.prog.info? 108).map (fun i => (i.zero, i.size, i.bytes)) = some (some (.nilFunc), 1, 8) := by kernel_rfl
theorem info109 : (Try.prog.info? 109).map (fun i => (i.zero, i.size, i.bytes)) = some (some (.nilFunc), 1, 8) := by kernel_rfl
theorem info110 : (Try.prog.info? 110).map (fun i => (i.zero, i.size, i.bytes)) = some (some (.agg #[.pointer none, .pointer none, .pointer none, .string ByteArray.empty]), 4, 40) := by kernel_rfl
theorem info111 : (Try.prog.info? 111).map (fun i => (i.zero, i.size, i.bytes)) = some (some (.agg #[.pointer none, .pointer none, .pointer none, .string ByteArray.empty]), 4, 40) := by kernel_rfl
theorem info115 : (Try.prog.info? 115).map (fun i => (i.zero, i.size, i.bytes)) = some (some (.nilFunc), 1, 8) := by kernel_rfl
theorem info116 : (Try.prog.info? 116).map (fun i => (i.zero, i.size, i.bytes)) = some (some (.int .u8 0), 1, 1) := by kernel_rfl
theorem info117 : (Try.prog.info? 117).map (fun i => (i.zero, i.size, i.bytes)) = some (some (.int .u8 0), 1, 1) := by kernel_rfl
theorem info118 : (Try.prog.info? 118).map (fun i => (i.zero, i.size, i.bytes)) = some (some (.nilFunc), 1, 8) := by kernel_rfl
theorem info119 : (Try.prog.info? 119).map (fun i => (i.zero, i.size, i.bytes)) = some (some (.pointer none), 1, 8) := by kernel_rfl
theorem info120 : (Try.prog.info? 120).map (fun i => (i.zero, i.size, i.bytes)) = some (some (.int .i32 0), 1, 4) := by kernel_rfl
theorem info121 : (Try.prog.info? 121).map (fun i => (i.zero, i.size, i.bytes)) = some (some (.int .i32 0), 1, 4) := by kernel_rfl
theorem info122 : (Try.prog.info? 122).map (fun i => (i.zero, i.size, i.bytes)) = some (some (.agg #[.int .u64 0, .int .u64 0, .int .u32 0, .int .u8 0, .int .u8 0, .int .u8 0, .int .u8 0, .nilFunc, .pointer none, .int .i32 0, .int .i32 0]), 11, 48) := by kernel_rfl
theorem info123 : (Try.prog.info? 123).map (fun i => (i.zero, i.size, i.bytes)) = some (some (.agg #[.int .u64 0, .int .u64 0, .int .u32 0, .int .u8 0, .int .u8 0, .int .u8 0, .int .u8 0, .nilFunc, .pointer none, .int .i32 0, .int .i32 0]), 11, 48) := by kernel_rfl
theorem env_sl : ∀ t e, eSl t = some e → ∃ et i z, Try.prog.underlying t = some (.slice et) ∧ Try.prog.info? et = some i ∧ i.size = e.sz ∧ i.zero = some z ∧ z.cells.size = e.sz ∧ i.bytes ≤ 64 ∧
    ∀ j, j < e.sz → (e.enc e.d).getD j .junk = .v (z.cells.toList.getD j undef) ∨ ∃ e', (e.enc e.d).getD j .junk = .rd e' [] ∧ z.cells.toList.getD j undef = .slice none 0 0 := by
  intro t e h
  unfold eSl at h
  split at h
  · cases h; obtain ⟨i, h1, h2, h3, h4⟩ := info_parts info5
    exact ⟨5, i, _, Try.underlying22, h1, h3, h2, rfl, by rw [h4]; decide, fun j hj => .inl (by rcases j with _ | j <;> first | rfl | (exact absurd hj (by simp [ETy.sz])))⟩
  · cases h; obtain ⟨i, h1, h2, h3, h4⟩ := info_parts info35
    exact ⟨35, i, _, Try.underlying24, h1, h3, h2, rfl, by rw [h4]; decide, fun j hj => .inr ⟨_, by rcases j with _ | j <;> first | rfl | (exact absurd hj (by simp [ETy.sz])), by rcases j with _ | j <;> first | rfl | (exact absurd hj (by simp [ETy.sz]))⟩⟩
  · cases h; obtain ⟨i, h1, h2, h3, h4⟩ := info_parts info2
    exact ⟨2, i, _, Try.underlying35, h1, h3, h2, rfl, by rw [h4]; decide, fun j hj => .inl (by rcases j with _ | j <;> first | rfl | (exact absurd hj (by simp [ETy.sz])))⟩
  · cases h; obtain ⟨i, h1, h2, h3, h4⟩ := info_parts info29
    exact ⟨29, i, _, Try.underlying36, h1, h3, h2, rfl, by rw [h4]; decide, fun j hj => .inl (by rcases j with _ | _ | j <;> first | rfl | (exact absurd hj (by simp [ETy.sz])))⟩
  · cases h; obtain ⟨i, h1, h2, h3, h4⟩ := info_parts info67
    exact ⟨67, i, _, Try.underlying83, h1, h3, h2, rfl, by rw [h4]; decide, fun j hj => .inl (by rcases j with _ | _ | _ | j <;> first | rfl | (exact absurd hj (by simp [ETy.sz])))⟩
  · cases h; obtain ⟨i, h1, h2, h3, h4⟩ := info_parts info3
    exact ⟨3, i, _, Try.underlying99, h1, h3, h2, rfl, by rw [h4]; decide, fun j hj => .inl (by rcases j with _ | j <;> first | rfl | (exact absurd hj (by simp [ETy.sz])))⟩
  · cases h
theorem info_three {P : Program} {e : TypeId} {z : Option Value} {size bytes : Nat} (h : (P.info? e).map (fun i => (i.zero, i.size, i.bytes)) = some (z, size, bytes)) : ∃ i, P.info? e = some i ∧ i.size = size := by
  obtain ⟨i, hi, hzz⟩ := Option.map_eq_some_iff.1 h
  simp only [Prod.mk.injEq] at hzz
  exact ⟨i, hi, hzz.2.1⟩
theorem env_var : ∀ t a s, eVar t = some (a, s) → ∃ d i, Try.prog.underlying t = some d ∧ (match d with | .struct _ | .array _ _ => true | _ => false) = a ∧ Try.prog.info? t = some i ∧ i.size = s := by
  intro t a s h
  unfold eVar at h
  split at h
  · cases h; obtain ⟨i, h1, h2⟩ := info_three info1; exact ⟨_, i, Try.underlying1, rfl, h1, h2⟩
  · cases h; obtain ⟨i, h1, h2⟩ := info_three info2; exact ⟨_, i, Try.underlying2, rfl, h1, h2⟩
  · cases h; obtain ⟨i, h1, h2⟩ := info_three info3; exact ⟨_, i, Try.underlying3, rfl, h1, h2⟩
  · cases h; obtain ⟨i, h1, h2⟩ := info_three info4; exact ⟨_, i, Try.underlying4, rfl, h1, h2⟩
  · cases h; obtain ⟨i, h1, h2⟩ := info_three info5; exact ⟨_, i, Try.underlying5, rfl, h1, h2⟩
  · cases h; obtain ⟨i, h1, h2⟩ := info_three info6; exact ⟨_, i, Try.underlying6, rfl, h1, h2⟩
  · cases h; obtain ⟨i, h1, h2⟩ := info_three info7; exact ⟨_, i, Try.underlying7, rfl, h1, h2⟩
  · cases h; obtain ⟨i, h1, h2⟩ := info_three info8; exact ⟨_, i, Try.underlying8, rfl, h1, h2⟩
  · cases h; obtain ⟨i, h1, h2⟩ := info_three info9; exact ⟨_, i, Try.underlying9, rfl, h1, h2⟩
  · cases h; obtain ⟨i, h1, h2⟩ := info_three info10; exact ⟨_, i, Try.underlying10, rfl, h1, h2⟩
  · cases h; obtain ⟨i, h1, h2⟩ := info_three info11; exact ⟨_, i, Try.underlying11, rfl, h1, h2⟩
  · cases h; obtain ⟨i, h1, h2⟩ := info_three info12; exact ⟨_, i, Try.underlying12, rfl, h1, h2⟩
  · cases h; obtain ⟨i, h1, h2⟩ := info_three info13; exact ⟨_, i, Try.underlying13, rfl, h1, h2⟩
  · cases h; obtain ⟨i, h1, h2⟩ := info_three info14; exact ⟨_, i, Try.underlying14, rfl, h1, h2⟩
  · cases h; obtain ⟨i, h1, h2⟩ := info_three info15; exact ⟨_, i, Try.underlying15, rfl, h1, h2⟩
  · cases h; obtain ⟨i, h1, h2⟩ := info_three info16; exact ⟨_, i, Try.underlying16, rfl, h1, h2⟩
  · cases h; obtain ⟨i, h1, h2⟩ := info_three info17; exact ⟨_, i, Try.underlying17, rfl, h1, h2⟩
  · cases h; obtain ⟨i, h1, h2⟩ := info_three info18; exact ⟨_, i, Try.underlying18, rfl, h1, h2⟩
  · cases h; obtain ⟨i, h1, h2⟩ := info_three info19; exact ⟨_, i, Try.underlying19, rfl, h1, h2⟩
  · cases h; obtain ⟨i, h1, h2⟩ := info_three info21; exact ⟨_, i, Try.underlying21, rfl, h1, h2⟩
  · cases h; obtain ⟨i, h1, h2⟩ := info_three info22; exact ⟨_, i, Try.underlying22, rfl, h1, h2⟩
  · cases h; obtain ⟨i, h1, h2⟩ := info_three info23; exact ⟨_, i, Try.underlying23, rfl, h1, h2⟩
  · cases h; obtain ⟨i, h1, h2⟩ := info_three info24; exact ⟨_, i, Try.underlying24, rfl, h1, h2⟩
  · cases h; obtain ⟨i, h1, h2⟩ := info_three info25; exact ⟨_, i, Try.underlying25, rfl, h1, h2⟩
  · cases h; obtain ⟨i, h1, h2⟩ := info_three info26; exact ⟨_, i, Try.underlying26, rfl, h1, h2⟩
  · cases h; obtain ⟨i, h1, h2⟩ := info_three info27; exact ⟨_, i, Try.underlying27, rfl, h1, h2⟩
  · cases h; obtain ⟨i, h1, h2⟩ := info_three info28; exact ⟨_, i, Try.underlying28, rfl, h1, h2⟩
  · cases h; obtain ⟨i, h1, h2⟩ := info_three info29; exact ⟨_, i, Try.underlying29, rfl, h1, h2⟩
  · cases h; obtain ⟨i, h1, h2⟩ := info_three info30; exact ⟨_, i, Try.underlying30, rfl, h1, h2⟩
  · cases h; obtain ⟨i, h1, h2⟩ := info_three info31; exact ⟨_, i, Try.underlying31, rfl, h1, h2⟩
  · cases h; obtain ⟨i, h1, h2⟩ := info_three info33; exact ⟨_, i, Try.underlying33, rfl, h1, h2⟩
  · cases h; obtain ⟨i, h1, h2⟩ := info_three info34; exact ⟨_, i, Try.underlying34, rfl, h1, h2⟩
  · cases h; obtain ⟨i, h1, h2⟩ := info_three info35; exact ⟨_, i, Try.underlying35, rfl, h1, h2⟩
  · cases h; obtain ⟨i, h1, h2⟩ := info_three info36; exact ⟨_, i, Try.underlying36, rfl, h1, h2⟩
  · cases h; obtain ⟨i, h1, h2⟩ := info_three info38; exact ⟨_, i, Try.underlying38, rfl, h1, h2⟩
  · cases h; obtain ⟨i, h1, h2⟩ := info_three info39; exact ⟨_, i, Try.underlying39, rfl, h1, h2⟩
  · cases h; obtain ⟨i, h1, h2⟩ := info_three info40; exact ⟨_, i, Try.underlying40, rfl, h1, h2⟩
  · cases h; obtain ⟨i, h1, h2⟩ := info_three info42; exact ⟨_, i, Try.underlying42, rfl, h1, h2⟩
  · cases h; obtain ⟨i, h1, h2⟩ := info_three info44; exact ⟨_, i, Try.underlying44, rfl, h1, h2⟩
  · cases h; obtain ⟨i, h1, h2⟩ := info_three info45; exact ⟨_, i, Try.underlying45, rfl, h1, h2⟩
  · cases h; obtain ⟨i, h1, h2⟩ := info_three info46; exact ⟨_, i, Try.underlying46, rfl, h1, h2⟩
  · cases h; obtain ⟨i, h1, h2⟩ := info_three info48; exact ⟨_, i, Try.underlying48, rfl, h1, h2⟩
  · cases h; obtain ⟨i, h1, h2⟩ := info_three info49; exact ⟨_, i, Try.underlying49, rfl, h1, h2⟩
  · cases h; obtain ⟨i, h1, h2⟩ := info_three info50; exact ⟨_, i, Try.underlying50, rfl, h1, h2⟩
  · cases h; obtain ⟨i, h1, h2⟩ := info_three info51; exact ⟨_, i, Try.underlying51, rfl, h1, h2⟩
  · cases h; obtain ⟨i, h1, h2⟩ := info_three info52; exact ⟨_, i, Try.underlying52, rfl, h1, h2⟩
  · cases h; obtain ⟨i, h1, h2⟩ := info_three info53; exact ⟨_, i, Try.underlying53, rfl, h1, h2⟩
  · cases h; obtain ⟨i, h1, h2⟩ := info_three info54; exact ⟨_, i, Try.underlying54, rfl, h1, h2⟩
  · cases h; obtain ⟨i, h1, h2⟩ := info_three info55; exact ⟨_, i, Try.underlying55, rfl, h1, h2⟩
  · cases h; obtain ⟨i, h1, h2⟩ := info_three info56; exact ⟨_, i, Try.underlying56, rfl, h1, h2⟩
  · cases h; obtain ⟨i, h1, h2⟩ := info_three info57; exact ⟨_, i, Try.underlying57, rfl, h1, h2⟩
  · cases h; obtain ⟨i, h1, h2⟩ := info_three info58; exact ⟨_, i, Try.underlying58, rfl, h1, h2⟩
  · cases h; obtain ⟨i, h1, h2⟩ := info_three info59; exact ⟨_, i, Try.underlying59, rfl, h1, h2⟩
  · cases h; obtain ⟨i, h1, h2⟩ := info_three info60; exact ⟨_, i, Try.underlying60, rfl, h1, h2⟩
  · cases h; obtain ⟨i, h1, h2⟩ := info_three info61; exact ⟨_, i, Try.underlying61, rfl, h1, h2⟩
  · cases h; obtain ⟨i, h1, h2⟩ := info_three info62; exact ⟨_, i, Try.underlying62, rfl, h1, h2⟩
  · cases h; obtain ⟨i, h1, h2⟩ := info_three info63; exact ⟨_, i, Try.underlying63, rfl, h1, h2⟩
  · cases h; obtain ⟨i, h1, h2⟩ := info_three info64; exact ⟨_, i, Try.underlying64, rfl, h1, h2⟩
  · cases h; obtain ⟨i, h1, h2⟩ := info_three info65; exact ⟨_, i, Try.underlying65, rfl, h1, h2⟩
  · cases h; obtain ⟨i, h1, h2⟩ := info_three info66; exact ⟨_, i, Try.underlying66, rfl, h1, h2⟩
  · cases h; obtain ⟨i, h1, h2⟩ := info_three info67; exact ⟨_, i, Try.underlying67, rfl, h1, h2⟩
  · cases h; obtain ⟨i, h1, h2⟩ := info_three info69; exact ⟨_, i, Try.underlying69, rfl, h1, h2⟩
  · cases h; obtain ⟨i, h1, h2⟩ := info_three info70; exact ⟨_, i, Try.underlying70, rfl, h1, h2⟩
  · cases h; obtain ⟨i, h1, h2⟩ := info_three info71; exact ⟨_, i, Try.underlying71, rfl, h1, h2⟩
  · cases h; obtain ⟨i, h1, h2⟩ := info_three info72; exact ⟨_, i, Try.underlying72, rfl, h1, h2⟩
  · cases h; obtain ⟨i, h1, h2⟩ := info_three info73; exact ⟨_, i, Try.underlying73, rfl, h1, h2⟩
  · cases h; obtain ⟨i, h1, h2⟩ := info_three info74; exact ⟨_, i, Try.underlying74, rfl, h1, h2⟩
  · cases h; obtain ⟨i, h1, h2⟩ := info_three info75; exact ⟨_, i, Try.underlying75, rfl, h1, h2⟩
  · cases h; obtain ⟨i, h1, h2⟩ := info_three info76; exact ⟨_, i, Try.underlying76, rfl, h1, h2⟩
  · cases h; obtain ⟨i, h1, h2⟩ := info_three info77; exact ⟨_, i, Try.underlying77, rfl, h1, h2⟩
  · cases h; obtain ⟨i, h1, h2⟩ := info_three info78; exact ⟨_, i, Try.underlying78, rfl, h1, h2⟩
  · cases h; obtain ⟨i, h1, h2⟩ := info_three info79; exact ⟨_, i, Try.underlying79, rfl, h1, h2⟩
  · cases h; obtain ⟨i, h1, h2⟩ := info_three info80; exact ⟨_, i, Try.underlying80, rfl, h1, h2⟩
  · cases h; obtain ⟨i, h1, h2⟩ := info_three info81; exact ⟨_, i, Try.underlying81, rfl, h1, h2⟩
  · cases h; obtain ⟨i, h1, h2⟩ := info_three info82; exact ⟨_, i, Try.underlying82, rfl, h1, h2⟩
  · cases h; obtain ⟨i, h1, h2⟩ := info_three info83; exact ⟨_, i, Try.underlying83, rfl, h1, h2⟩
  · cases h; obtain ⟨i, h1, h2⟩ := info_three info84; exact ⟨_, i, Try.underlying84, rfl, h1, h2⟩
  · cases h; obtain ⟨i, h1, h2⟩ := info_three info85; exact ⟨_, i, Try.underlying85, rfl, h1, h2⟩
  · cases h; obtain ⟨i, h1, h2⟩ := info_three info86; exact ⟨_, i, Try.underlying86, rfl, h1, h2⟩
  · cases h; obtain ⟨i, h1, h2⟩ := info_three info87; exact ⟨_, i, Try.underlying87, rfl, h1, h2⟩
  · cases h; obtain ⟨i, h1, h2⟩ := info_three info88; exact ⟨_, i, Try.underlying88, rfl, h1, h2⟩
  · cases h; obtain ⟨i, h1, h2⟩ := info_three info89; exact ⟨_, i, Try.underlying89, rfl, h1, h2⟩
  · cases h; obtain ⟨i, h1, h2⟩ := info_three info91; exact ⟨_, i, Try.underlying91, rfl, h1, h2⟩
  · cases h; obtain ⟨i, h1, h2⟩ := info_three info92; exact ⟨_, i, Try.underlying92, rfl, h1, h2⟩
  · cases h; obtain ⟨i, h1, h2⟩ := info_three info93; exact ⟨_, i, Try.underlying93, rfl, h1, h2⟩
  · cases h; obtain ⟨i, h1, h2⟩ := info_three info95; exact ⟨_, i, Try.underlying95, rfl, h1, h2⟩
  · cases h; obtain ⟨i, h1, h2⟩ := info_three info96; exact ⟨_, i, Try.underlying96, rfl, h1, h2⟩
  · cases h; obtain ⟨i, h1, h2⟩ := info_three info97; exact ⟨_, i, Try.underlying97, rfl, h1, h2⟩
  · cases h; obtain ⟨i, h1, h2⟩ := info_three info98; exact ⟨_, i, Try.underlying98, rfl, h1, h2⟩
  · cases h; obtain ⟨i, h1, h2⟩ := info_three info99; exact ⟨_, i, Try.underlying99, rfl, h1, h2⟩
  · cases h; obtain ⟨i, h1, h2⟩ := info_three info100; exact ⟨_, i, Try.underlying100, rfl, h1, h2⟩
  · cases h; obtain ⟨i, h1, h2⟩ := info_three info101; exact ⟨_, i, Try.underlying101, rfl, h1, h2⟩
  · cases h; obtain ⟨i, h1, h2⟩ := info_three info102; exact ⟨_, i, Try.underlying102, rfl, h1, h2⟩
  · cases h; obtain ⟨i, h1, h2⟩ := info_three info103; exact ⟨_, i, Try.underlying103, rfl, h1, h2⟩
  · cases h; obtain ⟨i, h1, h2⟩ := info_three info104; exact ⟨_, i, Try.underlying104, rfl, h1, h2⟩
  · cases h; obtain ⟨i, h1, h2⟩ := info_three info105; exact ⟨_, i, Try.underlying105, rfl, h1, h2⟩
  · cases h; obtain ⟨i, h1, h2⟩ := info_three info106; exact ⟨_, i, Try.underlying106, rfl, h1, h2⟩
  · cases h; obtain ⟨i, h1, h2⟩ := info_three info108; exact ⟨_, i, Try.underlying108, rfl, h1, h2⟩
  · cases h; obtain ⟨i, h1, h2⟩ := info_three info109; exact ⟨_, i, Try.underlying109, rfl, h1, h2⟩
  · cases h; obtain ⟨i, h1, h2⟩ := info_three info110; exact ⟨_, i, Try.underlying110, rfl, h1, h2⟩
  · cases h; obtain ⟨i, h1, h2⟩ := info_three info111; exact ⟨_, i, Try.underlying111, rfl, h1, h2⟩
  · cases h; obtain ⟨i, h1, h2⟩ := info_three info115; exact ⟨_, i, Try.underlying115, rfl, h1, h2⟩
  · cases h; obtain ⟨i, h1, h2⟩ := info_three info116; exact ⟨_, i, Try.underlying116, rfl, h1, h2⟩
  · cases h; obtain ⟨i, h1, h2⟩ := info_three info117; exact ⟨_, i, Try.underlying117, rfl, h1, h2⟩
  · cases h; obtain ⟨i, h1, h2⟩ := info_three info118; exact ⟨_, i, Try.underlying118, rfl, h1, h2⟩
  · cases h; obtain ⟨i, h1, h2⟩ := info_three info119; exact ⟨_, i, Try.underlying119, rfl, h1, h2⟩
  · cases h; obtain ⟨i, h1, h2⟩ := info_three info120; exact ⟨_, i, Try.underlying120, rfl, h1, h2⟩
  · cases h; obtain ⟨i, h1, h2⟩ := info_three info121; exact ⟨_, i, Try.underlying121, rfl, h1, h2⟩
  · cases h; obtain ⟨i, h1, h2⟩ := info_three info122; exact ⟨_, i, Try.underlying122, rfl, h1, h2⟩
  · cases h; obtain ⟨i, h1, h2⟩ := info_three info123; exact ⟨_, i, Try.underlying123, rfl, h1, h2⟩
  · cases h
theorem env_fld : ∀ t f o, eFld t f = some o → ∃ fs fl i, Try.prog.underlying t = some (.struct fs) ∧ fs[f]? = some fl ∧ fl.offset = o ∧ Try.prog.info? fl.type = some i ∧ i.size ≠ 0 := by
  intro t f o h
  unfold eFld at h
  split at h
  · cases h; obtain ⟨i, h1, h2⟩ := info_three info2; exact ⟨_, _, i, Try.underlying7, rfl, rfl, h1, by rw [h2]; decide⟩
  · cases h; obtain ⟨i, h1, h2⟩ := info_three info3; exact ⟨_, _, i, Try.underlying7, rfl, rfl, h1, by rw [h2]; decide⟩
  · cases h; obtain ⟨i, h1, h2⟩ := info_three info4; exact ⟨_, _, i, Try.underlying7, rfl, rfl, h1, by rw [h2]; decide⟩
  · cases h; obtain ⟨i, h1, h2⟩ := info_three info6; exact ⟨_, _, i, Try.underlying7, rfl, rfl, h1, by rw [h2]; decide⟩
  · cases h; obtain ⟨i, h1, h2⟩ := info_three info2; exact ⟨_, _, i, Try.underlying8, rfl, rfl, h1, by rw [h2]; decide⟩
  · cases h; obtain ⟨i, h1, h2⟩ := info_three info3; exact ⟨_, _, i, Try.underlying8, rfl, rfl, h1, by rw [h2]; decide⟩
  · cases h; obtain ⟨i, h1, h2⟩ := info_three info4; exact ⟨_, _, i, Try.underlying8, rfl, rfl, h1, by rw [h2]; decide⟩
  · cases h; obtain ⟨i, h1, h2⟩ := info_three info6; exact ⟨_, _, i, Try.underlying8, rfl, rfl, h1, by rw [h2]; decide⟩
  · cases h; obtain ⟨i, h1, h2⟩ := info_three info9; exact ⟨_, _, i, Try.underlying13, rfl, rfl, h1, by rw [h2]; decide⟩
  · cases h; obtain ⟨i, h1, h2⟩ := info_three info12; exact ⟨_, _, i, Try.underlying13, rfl, rfl, h1, by rw [h2]; decide⟩
  · cases h; obtain ⟨i, h1, h2⟩ := info_three info9; exact ⟨_, _, i, Try.underlying14, rfl, rfl, h1, by rw [h2]; decide⟩
  · cases h; obtain ⟨i, h1, h2⟩ := info_three info12; exact ⟨_, _, i, Try.underlying14, rfl, rfl, h1, by rw [h2]; decide⟩
  · cases h; obtain ⟨i, h1, h2⟩ := info_three info17; exact ⟨_, _, i, Try.underlying18, rfl, rfl, h1, by rw [h2]; decide⟩
  · cases h; obtain ⟨i, h1, h2⟩ := info_three info17; exact ⟨_, _, i, Try.underlying19, rfl, rfl, h1, by rw [h2]; decide⟩
  · cases h; obtain ⟨i, h1, h2⟩ := info_three info24; exact ⟨_, _, i, Try.underlying25, rfl, rfl, h1, by rw [h2]; decide⟩
  · cases h; obtain ⟨i, h1, h2⟩ := info_three info24; exact ⟨_, _, i, Try.underlying26, rfl, rfl, h1, by rw [h2]; decide⟩
  · cases h; obtain ⟨i, h1, h2⟩ := info_three info2; exact ⟨_, _, i, Try.underlying28, rfl, rfl, h1, by rw [h2]; decide⟩
  · cases h; obtain ⟨i, h1, h2⟩ := info_three info2; exact ⟨_, _, i, Try.underlying28, rfl, rfl, h1, by rw [h2]; decide⟩
  · cases h; obtain ⟨i, h1, h2⟩ := info_three info2; exact ⟨_, _, i, Try.underlying29, rfl, rfl, h1, by rw [h2]; decide⟩
  · cases h; obtain ⟨i, h1, h2⟩ := info_three info2; exact ⟨_, _, i, Try.underlying29, rfl, rfl, h1, by rw [h2]; decide⟩
  · cases h; obtain ⟨i, h1, h2⟩ := info_three info29; exact ⟨_, _, i, Try.underlying66, rfl, rfl, h1, by rw [h2]; decide⟩
  · cases h; obtain ⟨i, h1, h2⟩ := info_three info3; exact ⟨_, _, i, Try.underlying66, rfl, rfl, h1, by rw [h2]; decide⟩
  · cases h; obtain ⟨i, h1, h2⟩ := info_three info29; exact ⟨_, _, i, Try.underlying67, rfl, rfl, h1, by rw [h2]; decide⟩
  · cases h; obtain ⟨i, h1, h2⟩ := info_three info3; exact ⟨_, _, i, Try.underlying67, rfl, rfl, h1, by rw [h2]; decide⟩
  · cases h; obtain ⟨i, h1, h2⟩ := info_three info22; exact ⟨_, _, i, Try.underlying76, rfl, rfl, h1, by rw [h2]; decide⟩
  · cases h; obtain ⟨i, h1, h2⟩ := info_three info3; exact ⟨_, _, i, Try.underlying76, rfl, rfl, h1, by rw [h2]; decide⟩
  · cases h; obtain ⟨i, h1, h2⟩ := info_three info75; exact ⟨_, _, i, Try.underlying76, rfl, rfl, h1, by rw [h2]; decide⟩
  · cases h; obtain ⟨i, h1, h2⟩ := info_three info22; exact ⟨_, _, i, Try.underlying77, rfl, rfl, h1, by rw [h2]; decide⟩
  · cases h; obtain ⟨i, h1, h2⟩ := info_three info3; exact ⟨_, _, i, Try.underlying77, rfl, rfl, h1, by rw [h2]; decide⟩
  · cases h; obtain ⟨i, h1, h2⟩ := info_three info75; exact ⟨_, _, i, Try.underlying77, rfl, rfl, h1, by rw [h2]; decide⟩
  · cases h; obtain ⟨i, h1, h2⟩ := info_three info17; exact ⟨_, _, i, Try.underlying110, rfl, rfl, h1, by rw [h2]; decide⟩
  · cases h; obtain ⟨i, h1, h2⟩ := info_three info17; exact ⟨_, _, i, Try.underlying110, rfl, rfl, h1, by rw [h2]; decide⟩
  · cases h; obtain ⟨i, h1, h2⟩ := info_three info17; exact ⟨_, _, i, Try.underlying110, rfl, rfl, h1, by rw [h2]; decide⟩
  · cases h; obtain ⟨i, h1, h2⟩ := info_three info9; exact ⟨_, _, i, Try.underlying110, rfl, rfl, h1, by rw [h2]; decide⟩
  · cases h; obtain ⟨i, h1, h2⟩ := info_three info17; exact ⟨_, _, i, Try.underlying111, rfl, rfl, h1, by rw [h2]; decide⟩
  · cases h; obtain ⟨i, h1, h2⟩ := info_three info17; exact ⟨_, _, i, Try.underlying111, rfl, rfl, h1, by rw [h2]; decide⟩
  · cases h; obtain ⟨i, h1, h2⟩ := info_three info17; exact ⟨_, _, i, Try.underlying111, rfl, rfl, h1, by rw [h2]; decide⟩
  · cases h; obtain ⟨i, h1, h2⟩ := info_three info9; exact ⟨_, _, i, Try.underlying111, rfl, rfl, h1, by rw [h2]; decide⟩
  · cases h; obtain ⟨i, h1, h2⟩ := info_three info12; exact ⟨_, _, i, Try.underlying122, rfl, rfl, h1, by rw [h2]; decide⟩
  · cases h; obtain ⟨i, h1, h2⟩ := info_three info12; exact ⟨_, _, i, Try.underlying122, rfl, rfl, h1, by rw [h2]; decide⟩
  · cases h; obtain ⟨i, h1, h2⟩ := info_three info97; exact ⟨_, _, i, Try.underlying122, rfl, rfl, h1, by rw [h2]; decide⟩
  · cases h; obtain ⟨i, h1, h2⟩ := info_three info116; exact ⟨_, _, i, Try.underlying122, rfl, rfl, h1, by rw [h2]; decide⟩
  · cases h; obtain ⟨i, h1, h2⟩ := info_three info5; exact ⟨_, _, i, Try.underlying122, rfl, rfl, h1, by rw [h2]; decide⟩
  · cases h; obtain ⟨i, h1, h2⟩ := info_three info5; exact ⟨_, _, i, Try.underlying122, rfl, rfl, h1, by rw [h2]; decide⟩
  · cases h; obtain ⟨i, h1, h2⟩ := info_three info117; exact ⟨_, _, i, Try.underlying122, rfl, rfl, h1, by rw [h2]; decide⟩
  · cases h; obtain ⟨i, h1, h2⟩ := info_three info118; exact ⟨_, _, i, Try.underlying122, rfl, rfl, h1, by rw [h2]; decide⟩
  · cases h; obtain ⟨i, h1, h2⟩ := info_three info119; exact ⟨_, _, i, Try.underlying122, rfl, rfl, h1, by rw [h2]; decide⟩
  · cases h; obtain ⟨i, h1, h2⟩ := info_three info120; exact ⟨_, _, i, Try.underlying122, rfl, rfl, h1, by rw [h2]; decide⟩
  · cases h; obtain ⟨i, h1, h2⟩ := info_three info121; exact ⟨_, _, i, Try.underlying122, rfl, rfl, h1, by rw [h2]; decide⟩
  · cases h; obtain ⟨i, h1, h2⟩ := info_three info12; exact ⟨_, _, i, Try.underlying123, rfl, rfl, h1, by rw [h2]; decide⟩
  · cases h; obtain ⟨i, h1, h2⟩ := info_three info12; exact ⟨_, _, i, Try.underlying123, rfl, rfl, h1, by rw [h2]; decide⟩
  · cases h; obtain ⟨i, h1, h2⟩ := info_three info97; exact ⟨_, _, i, Try.underlying123, rfl, rfl, h1, by rw [h2]; decide⟩
  · cases h; obtain ⟨i, h1, h2⟩ := info_three info116; exact ⟨_, _, i, Try.underlying123, rfl, rfl, h1, by rw [h2]; decide⟩
  · cases h; obtain ⟨i, h1, h2⟩ := info_three info5; exact ⟨_, _, i, Try.underlying123, rfl, rfl, h1, by rw [h2]; decide⟩
  · cases h; obtain ⟨i, h1, h2⟩ := info_three info5; exact ⟨_, _, i, Try.underlying123, rfl, rfl, h1, by rw [h2]; decide⟩
  · cases h; obtain ⟨i, h1, h2⟩ := info_three info117; exact ⟨_, _, i, Try.underlying123, rfl, rfl, h1, by rw [h2]; decide⟩
  · cases h; obtain ⟨i, h1, h2⟩ := info_three info118; exact ⟨_, _, i, Try.underlying123, rfl, rfl, h1, by rw [h2]; decide⟩
  · cases h; obtain ⟨i, h1, h2⟩ := info_three info119; exact ⟨_, _, i, Try.underlying123, rfl, rfl, h1, by rw [h2]; decide⟩
  · cases h; obtain ⟨i, h1, h2⟩ := info_three info120; exact ⟨_, _, i, Try.underlying123, rfl, rfl, h1, by rw [h2]; decide⟩
  · cases h; obtain ⟨i, h1, h2⟩ := info_three info121; exact ⟨_, _, i, Try.underlying123, rfl, rfl, h1, by rw [h2]; decide⟩
  · cases h
theorem env_zero : ∀ t cs, eZero t = some cs → ∃ i z, Try.prog.info? t = some i ∧ i.zero = some z ∧ z.cells.toList = cs := by
  intro t cs h
  unfold eZero at h
  split at h
  · cases h; obtain ⟨i, h1, h2, _⟩ := info_parts info1; exact ⟨i, _, h1, h2, rfl⟩
  · cases h; obtain ⟨i, h1, h2, _⟩ := info_parts info2; exact ⟨i, _, h1, h2, rfl⟩
  · cases h; obtain ⟨i, h1, h2, _⟩ := info_parts info3; exact ⟨i, _, h1, h2, rfl⟩
  · cases h; obtain ⟨i, h1, h2, _⟩ := info_parts info4; exact ⟨i, _, h1, h2, rfl⟩
  · cases h; obtain ⟨i, h1, h2, _⟩ := info_parts info5; exact ⟨i, _, h1, h2, rfl⟩
  · cases h; obtain ⟨i, h1, h2, _⟩ := info_parts info6; exact ⟨i, _, h1, h2, rfl⟩
  · cases h; obtain ⟨i, h1, h2, _⟩ := info_parts info7; exact ⟨i, _, h1, h2, rfl⟩
  · cases h; obtain ⟨i, h1, h2, _⟩ := info_parts info8; exact ⟨i, _, h1, h2, rfl⟩
  · cases h; obtain ⟨i, h1, h2, _⟩ := info_parts info9; exact ⟨i, _, h1, h2, rfl⟩
  · cases h; obtain ⟨i, h1, h2, _⟩ := info_parts info10; exact ⟨i, _, h1, h2, rfl⟩
  · cases h; obtain ⟨i, h1, h2, _⟩ := info_parts info11; exact ⟨i, _, h1, h2, rfl⟩
  · cases h; obtain ⟨i, h1, h2, _⟩ := info_parts info12; exact ⟨i, _, h1, h2, rfl⟩
  · cases h; obtain ⟨i, h1, h2, _⟩ := info_parts info13; exact ⟨i, _, h1, h2, rfl⟩
  · cases h; obtain ⟨i, h1, h2, _⟩ := info_parts info14; exact ⟨i, _, h1, h2, rfl⟩
  · cases h; obtain ⟨i, h1, h2, _⟩ := info_parts info15; exact ⟨i, _, h1, h2, rfl⟩
  · cases h; obtain ⟨i, h1, h2, _⟩ := info_parts info16; exact ⟨i, _, h1, h2, rfl⟩
  · cases h; obtain ⟨i, h1, h2, _⟩ := info_parts info17; exact ⟨i, _, h1, h2, rfl⟩
  · cases h; obtain ⟨i, h1, h2, _⟩ := info_parts info18; exact ⟨i, _, h1, h2, rfl⟩
  · cases h; obtain ⟨i, h1, h2, _⟩ := info_parts info19; exact ⟨i, _, h1, h2, rfl⟩
  · cases h; obtain ⟨i, h1, h2, _⟩ := info_parts info21; exact ⟨i, _, h1, h2, rfl⟩
  · cases h; obtain ⟨i, h1, h2, _⟩ := info_parts info22; exact ⟨i, _, h1, h2, rfl⟩
  · cases h; obtain ⟨i, h1, h2, _⟩ := info_parts info23; exact ⟨i, _, h1, h2, rfl⟩
  · cases h; obtain ⟨i, h1, h2, _⟩ := info_parts info24; exact ⟨i, _, h1, h2, rfl⟩
  · cases h; obtain ⟨i, h1, h2, _⟩ := info_parts info25; exact ⟨i, _, h1, h2, rfl⟩
  · cases h; obtain ⟨i, h1, h2, _⟩ := info_parts info26; exact ⟨i, _, h1, h2, rfl⟩
  · cases h; obtain ⟨i, h1, h2, _⟩ := info_parts info27; exact ⟨i, _, h1, h2, rfl⟩
  · cases h; obtain ⟨i, h1, h2, _⟩ := info_parts info28; exact ⟨i, _, h1, h2, rfl⟩
  · cases h; obtain ⟨i, h1, h2, _⟩ := info_parts info29; exact ⟨i, _, h1, h2, rfl⟩
  · cases h; obtain ⟨i, h1, h2, _⟩ := info_parts info30; exact ⟨i, _, h1, h2, rfl⟩
  · cases h; obtain ⟨i, h1, h2, _⟩ := info_parts info31; exact ⟨i, _, h1, h2, rfl⟩
  · cases h; obtain ⟨i, h1, h2, _⟩ := info_parts info33; exact ⟨i, _, h1, h2, rfl⟩
  · cases h; obtain ⟨i, h1, h2, _⟩ := info_parts info34; exact ⟨i, _, h1, h2, rfl⟩
  · cases h; obtain ⟨i, h1, h2, _⟩ := info_parts info35; exact ⟨i, _, h1, h2, rfl⟩
  · cases h; obtain ⟨i, h1, h2, _⟩ := info_parts info36; exact ⟨i, _, h1, h2, rfl⟩
  · cases h; obtain ⟨i, h1, h2, _⟩ := info_parts info38; exact ⟨i, _, h1, h2, rfl⟩
  · cases h; obtain ⟨i, h1, h2, _⟩ := info_parts info39; exact ⟨i, _, h1, h2, rfl⟩
  · cases h; obtain ⟨i, h1, h2, _⟩ := info_parts info40; exact ⟨i, _, h1, h2, rfl⟩
  · cases h; obtain ⟨i, h1, h2, _⟩ := info_parts info42; exact ⟨i, _, h1, h2, rfl⟩
  · cases h; obtain ⟨i, h1, h2, _⟩ := info_parts info44; exact ⟨i, _, h1, h2, rfl⟩
  · cases h; obtain ⟨i, h1, h2, _⟩ := info_parts info45; exact ⟨i, _, h1, h2, rfl⟩
  · cases h; obtain ⟨i, h1, h2, _⟩ := info_parts info46; exact ⟨i, _, h1, h2, rfl⟩
  · cases h; obtain ⟨i, h1, h2, _⟩ := info_parts info48; exact ⟨i, _, h1, h2, rfl⟩
  · cases h; obtain ⟨i, h1, h2, _⟩ := info_parts info49; exact ⟨i, _, h1, h2, rfl⟩
  · cases h; obtain ⟨i, h1, h2, _⟩ := info_parts info50; exact ⟨i, _, h1, h2, rfl⟩
  · cases h; obtain ⟨i, h1, h2, _⟩ := info_parts info51; exact ⟨i, _, h1, h2, rfl⟩
  · cases h; obtain ⟨i, h1, h2, _⟩ := info_parts info52; exact ⟨i, _, h1, h2, rfl⟩
  · cases h; obtain ⟨i, h1, h2, _⟩ := info_parts info53; exact ⟨i, _, h1, h2, rfl⟩
  · cases h; obtain ⟨i, h1, h2, _⟩ := info_parts info54; exact ⟨i, _, h1, h2, rfl⟩
  · cases h; obtain ⟨i, h1, h2, _⟩ := info_parts info55; exact ⟨i, _, h1, h2, rfl⟩
  · cases h; obtain ⟨i, h1, h2, _⟩ := info_parts info56; exact ⟨i, _, h1, h2, rfl⟩
  · cases h; obtain ⟨i, h1, h2, _⟩ := info_parts info57; exact ⟨i, _, h1, h2, rfl⟩
  · cases h; obtain ⟨i, h1, h2, _⟩ := info_parts info58; exact ⟨i, _, h1, h2, rfl⟩
  · cases h; obtain ⟨i, h1, h2, _⟩ := info_parts info59; exact ⟨i, _, h1, h2, rfl⟩
  · cases h; obtain ⟨i, h1, h2, _⟩ := info_parts info60; exact ⟨i, _, h1, h2, rfl⟩
  · cases h; obtain ⟨i, h1, h2, _⟩ := info_parts info61; exact ⟨i, _, h1, h2, rfl⟩
  · cases h; obtain ⟨i, h1, h2, _⟩ := info_parts info62; exact ⟨i, _, h1, h2, rfl⟩
  · cases h; obtain ⟨i, h1, h2, _⟩ := info_parts info63; exact ⟨i, _, h1, h2, rfl⟩
  · cases h; obtain ⟨i, h1, h2, _⟩ := info_parts info64; exact ⟨i, _, h1, h2, rfl⟩
  · cases h; obtain ⟨i, h1, h2, _⟩ := info_parts info65; exact ⟨i, _, h1, h2, rfl⟩
  · cases h; obtain ⟨i, h1, h2, _⟩ := info_parts info66; exact ⟨i, _, h1, h2, rfl⟩
  · cases h; obtain ⟨i, h1, h2, _⟩ := info_parts info67; exact ⟨i, _, h1, h2, rfl⟩
  · cases h; obtain ⟨i, h1, h2, _⟩ := info_parts info69; exact ⟨i, _, h1, h2, rfl⟩
  · cases h; obtain ⟨i, h1, h2, _⟩ := info_parts info70; exact ⟨i, _, h1, h2, rfl⟩
  · cases h; obtain ⟨i, h1, h2, _⟩ := info_parts info71; exact ⟨i, _, h1, h2, rfl⟩
  · cases h; obtain ⟨i, h1, h2, _⟩ := info_parts info72; exact ⟨i, _, h1, h2, rfl⟩
  · cases h; obtain ⟨i, h1, h2, _⟩ := info_parts info73; exact ⟨i, _, h1, h2, rfl⟩
  · cases h; obtain ⟨i, h1, h2, _⟩ := info_parts info74; exact ⟨i, _, h1, h2, rfl⟩
  · cases h; obtain ⟨i, h1, h2, _⟩ := info_parts info75; exact ⟨i, _, h1, h2, rfl⟩
  · cases h; obtain ⟨i, h1, h2, _⟩ := info_parts info76; exact ⟨i, _, h1, h2, rfl⟩
  · cases h; obtain ⟨i, h1, h2, _⟩ := info_parts info77; exact ⟨i, _, h1, h2, rfl⟩
  · cases h; obtain ⟨i, h1, h2, _⟩ := info_parts info78; exact ⟨i, _, h1, h2, rfl⟩
  · cases h; obtain ⟨i, h1, h2, _⟩ := info_parts info79; exact ⟨i, _, h1, h2, rfl⟩
  · cases h; obtain ⟨i, h1, h2, _⟩ := info_parts info80; exact ⟨i, _, h1, h2, rfl⟩
  · cases h; obtain ⟨i, h1, h2, _⟩ := info_parts info81; exact ⟨i, _, h1, h2, rfl⟩
  · cases h; obtain ⟨i, h1, h2, _⟩ := info_parts info82; exact ⟨i, _, h1, h2, rfl⟩
  · cases h; obtain ⟨i, h1, h2, _⟩ := info_parts info83; exact ⟨i, _, h1, h2, rfl⟩
  · cases h; obtain ⟨i, h1, h2, _⟩ := info_parts info84; exact ⟨i, _, h1, h2, rfl⟩
  · cases h; obtain ⟨i, h1, h2, _⟩ := info_parts info85; exact ⟨i, _, h1, h2, rfl⟩
  · cases h; obtain ⟨i, h1, h2, _⟩ := info_parts info86; exact ⟨i, _, h1, h2, rfl⟩
  · cases h; obtain ⟨i, h1, h2, _⟩ := info_parts info87; exact ⟨i, _, h1, h2, rfl⟩
  · cases h; obtain ⟨i, h1, h2, _⟩ := info_parts info88; exact ⟨i, _, h1, h2, rfl⟩
  · cases h; obtain ⟨i, h1, h2, _⟩ := info_parts info89; exact ⟨i, _, h1, h2, rfl⟩
  · cases h; obtain ⟨i, h1, h2, _⟩ := info_parts info91; exact ⟨i, _, h1, h2, rfl⟩
  · cases h; obtain ⟨i, h1, h2, _⟩ := info_parts info92; exact ⟨i, _, h1, h2, rfl⟩
  · cases h; obtain ⟨i, h1, h2, _⟩ := info_parts info93; exact ⟨i, _, h1, h2, rfl⟩
  · cases h; obtain ⟨i, h1, h2, _⟩ := info_parts info95; exact ⟨i, _, h1, h2, rfl⟩
  · cases h; obtain ⟨i, h1, h2, _⟩ := info_parts info96; exact ⟨i, _, h1, h2, rfl⟩
  · cases h; obtain ⟨i, h1, h2, _⟩ := info_parts info97; exact ⟨i, _, h1, h2, rfl⟩
  · cases h; obtain ⟨i, h1, h2, _⟩ := info_parts info98; exact ⟨i, _, h1, h2, rfl⟩
  · cases h; obtain ⟨i, h1, h2, _⟩ := info_parts info99; exact ⟨i, _, h1, h2, rfl⟩
  · cases h; obtain ⟨i, h1, h2, _⟩ := info_parts info100; exact ⟨i, _, h1, h2, rfl⟩
  · cases h; obtain ⟨i, h1, h2, _⟩ := info_parts info101; exact ⟨i, _, h1, h2, rfl⟩
  · cases h; obtain ⟨i, h1, h2, _⟩ := info_parts info102; exact ⟨i, _, h1, h2, rfl⟩
  · cases h; obtain ⟨i, h1, h2, _⟩ := info_parts info103; exact ⟨i, _, h1, h2, rfl⟩
  · cases h; obtain ⟨i, h1, h2, _⟩ := info_parts info104; exact ⟨i, _, h1, h2, rfl⟩
  · cases h; obtain ⟨i, h1, h2, _⟩ := info_parts info105; exact ⟨i, _, h1, h2, rfl⟩
  · cases h; obtain ⟨i, h1, h2, _⟩ := info_parts info106; exact ⟨i, _, h1, h2, rfl⟩
  · cases h; obtain ⟨i, h1, h2, _⟩ := info_parts info108; exact ⟨i, _, h1, h2, rfl⟩
  · cases h; obtain ⟨i, h1, h2, _⟩ := info_parts info109; exact ⟨i, _, h1, h2, rfl⟩
  · cases h; obtain ⟨i, h1, h2, _⟩ := info_parts info110; exact ⟨i, _, h1, h2, rfl⟩
  · cases h; obtain ⟨i, h1, h2, _⟩ := info_parts info111; exact ⟨i, _, h1, h2, rfl⟩
  · cases h; obtain ⟨i, h1, h2, _⟩ := info_parts info115; exact ⟨i, _, h1, h2, rfl⟩
  · cases h; obtain ⟨i, h1, h2, _⟩ := info_parts info116; exact ⟨i, _, h1, h2, rfl⟩
  · cases h; obtain ⟨i, h1, h2, _⟩ := info_parts info117; exact ⟨i, _, h1, h2, rfl⟩
  · cases h; obtain ⟨i, h1, h2, _⟩ := info_parts info118; exact ⟨i, _, h1, h2, rfl⟩
  · cases h; obtain ⟨i, h1, h2, _⟩ := info_parts info119; exact ⟨i, _, h1, h2, rfl⟩
  · cases h; obtain ⟨i, h1, h2, _⟩ := info_parts info120; exact ⟨i, _, h1, h2, rfl⟩
  · cases h; obtain ⟨i, h1, h2, _⟩ := info_parts info121; exact ⟨i, _, h1, h2, rfl⟩
  · cases h; obtain ⟨i, h1, h2, _⟩ := info_parts info122; exact ⟨i, _, h1, h2, rfl⟩
  · cases h; obtain ⟨i, h1, h2, _⟩ := info_parts info123; exact ⟨i, _, h1, h2, rfl⟩
  · cases h
theorem env_knd : ∀ t d, eKnd t = some d → Try.prog.underlying t = some d := by
  intro t d h
  unfold eKnd at h
  split at h
  · cases h; exact Try.underlying2
  · cases h; exact Try.underlying3
  · cases h; exact Try.underlying4
  · cases h; exact Try.underlying5
  · cases h; exact Try.underlying6
  · cases h; exact Try.underlying9
  · cases h; exact Try.underlying10
  · cases h; exact Try.underlying11
  · cases h; exact Try.underlying12
  · cases h; exact Try.underlying21
  · cases h; exact Try.underlying49
  · cases h; exact Try.underlying75
  · cases h; exact Try.underlying89
  · cases h; exact Try.underlying97
  · cases h; exact Try.underlying100
  · cases h; exact Try.underlying116
  · cases h; exact Try.underlying117
  · cases h; exact Try.underlying120
  · cases h; exact Try.underlying121
  · cases h
theorem env_bld : ∀ t l, eBld t = some l → ∀ (parts : Array (Nat × Value)) w, ∃ i z, Try.prog.info? t = some i ∧ i.zero = some z ∧
    ∀ cells, Instr.fill (fun k => l[k]?) z.cells parts.toList = some cells → (Instr.build t parts).run Try.prog w = .ok (.agg cells) w := by
  intro t l h parts w
  unfold eBld at h
  split at h
  · cases h; obtain ⟨i, h1, h2, _⟩ := info_parts info7; exact ⟨i, _, h1, h2, build_run h1 h2 Try.underlying7 (fun w => by kernel_rfl) w⟩
  · cases h; obtain ⟨i, h1, h2, _⟩ := info_parts info8; exact ⟨i, _, h1, h2, build_run h1 h2 Try.underlying8 (fun w => by kernel_rfl) w⟩
  · cases h; obtain ⟨i, h1, h2, _⟩ := info_parts info13; exact ⟨i, _, h1, h2, build_run h1 h2 Try.underlying13 (fun w => by kernel_rfl) w⟩
  · cases h; obtain ⟨i, h1, h2, _⟩ := info_parts info14; exact ⟨i, _, h1, h2, build_run h1 h2 Try.underlying14 (fun w => by kernel_rfl) w⟩
  · cases h; obtain ⟨i, h1, h2, _⟩ := info_parts info18; exact ⟨i, _, h1, h2, build_run h1 h2 Try.underlying18 (fun w => by kernel_rfl) w⟩
  · cases h; obtain ⟨i, h1, h2, _⟩ := info_parts info19; exact ⟨i, _, h1, h2, build_run h1 h2 Try.underlying19 (fun w => by kernel_rfl) w⟩
  · cases h; obtain ⟨i, h1, h2, _⟩ := info_parts info25; exact ⟨i, _, h1, h2, build_run h1 h2 Try.underlying25 (fun w => by kernel_rfl) w⟩
  · cases h; obtain ⟨i, h1, h2, _⟩ := info_parts info26; exact ⟨i, _, h1, h2, build_run h1 h2 Try.underlying26 (fun w => by kernel_rfl) w⟩
  · cases h; obtain ⟨i, h1, h2, _⟩ := info_parts info28; exact ⟨i, _, h1, h2, build_run h1 h2 Try.underlying28 (fun w => by kernel_rfl) w⟩
  · cases h; obtain ⟨i, h1, h2, _⟩ := info_parts info29; exact ⟨i, _, h1, h2, build_run h1 h2 Try.underlying29 (fun w => by kernel_rfl) w⟩
  · cases h; obtain ⟨i, h1, h2, _⟩ := info_parts info66; exact ⟨i, _, h1, h2, build_run h1 h2 Try.underlying66 (fun w => by kernel_rfl) w⟩
  · cases h; obtain ⟨i, h1, h2, _⟩ := info_parts info67; exact ⟨i, _, h1, h2, build_run h1 h2 Try.underlying67 (fun w => by kernel_rfl) w⟩
  · cases h; obtain ⟨i, h1, h2, _⟩ := info_parts info76; exact ⟨i, _, h1, h2, build_run h1 h2 Try.underlying76 (fun w => by kernel_rfl) w⟩
  · cases h; obtain ⟨i, h1, h2, _⟩ := info_parts info77; exact ⟨i, _, h1, h2, build_run h1 h2 Try.underlying77 (fun w => by kernel_rfl) w⟩
  · cases h; obtain ⟨i, h1, h2, _⟩ := info_parts info110; exact ⟨i, _, h1, h2, build_run h1 h2 Try.underlying110 (fun w => by kernel_rfl) w⟩
  · cases h; obtain ⟨i, h1, h2, _⟩ := info_parts info111; exact ⟨i, _, h1, h2, build_run h1 h2 Try.underlying111 (fun w => by kernel_rfl) w⟩
  · cases h; obtain ⟨i, h1, h2, _⟩ := info_parts info122; exact ⟨i, _, h1, h2, build_run h1 h2 Try.underlying122 (fun w => by kernel_rfl) w⟩
  · cases h; obtain ⟨i, h1, h2, _⟩ := info_parts info123; exact ⟨i, _, h1, h2, build_run h1 h2 Try.underlying123 (fun w => by kernel_rfl) w⟩
  · cases h
theorem env_pts : ∀ t, ePts t = true → ∀ (a b c d : Int) w, (Op.equal t (.agg #[.int .i64 a, .int .i64 b]) (.agg #[.int .i64 c, .int .i64 d])).run Try.prog w = .ok (decide (a = c ∧ b = d)) w ∧
    ∀ x y op, (eqGuard op t x y (.agg #[.int .i64 a, .int .i64 b]) (.agg #[.int .i64 c, .int .i64 d])).run Try.prog w = .ok () w := by
  intro t h a b c d w
  unfold ePts at h
  split at h
  · exact pts_run Try.underlying28 ⟨rfl, by decide, Try.underlying2⟩ ⟨rfl, by decide, Try.underlying2⟩ (by kernel_rfl) (by kernel_rfl) a b c d w
  · exact pts_run Try.underlying29 ⟨rfl, by decide, Try.underlying2⟩ ⟨rfl, by decide, Try.underlying2⟩ (by kernel_rfl) (by kernel_rfl) a b c d w
  · cases h
theorem env_mp : ∀ t kk z, eMp t = some (kk, z) → ∃ kt et i, Try.prog.underlying t = some (.map kt et) ∧ KeyLaw Try.prog kk kt ∧ Try.prog.info? et = some i ∧ i.zero = some z := by
  intro t kk z h
  unfold eMp at h
  split at h
  · cases h; obtain ⟨i, h1, h2, _⟩ := info_parts info2; exact ⟨67, 2, i, Try.underlying64, (keyLaw_st Try.underlying67 ⟨rfl, by decide⟩ ⟨rfl, by decide, Try.underlying3⟩ Try.underlying29 ⟨rfl, by decide, Try.underlying2⟩ ⟨rfl, by decide, Try.underlying2⟩ (by kernel_rfl) (by kernel_rfl) (fun a b k w => by kernel_rfl)), h1, h2⟩
  · cases h; obtain ⟨i, h1, h2, _⟩ := info_parts info4; exact ⟨29, 4, i, Try.underlying73, (keyLaw_pts Try.underlying29 ⟨rfl, by decide, Try.underlying2⟩ ⟨rfl, by decide, Try.underlying2⟩ (by kernel_rfl) (by kernel_rfl)), h1, h2⟩
  · cases h
theorem env_byt : ∀ t, eByt t = true → ∃ et, Try.prog.underlying t = some (.slice et) ∧ Try.prog.underlying et = some (.int .u8) := by
  intro t h
  unfold eByt at h
  split at h
  · exact ⟨_, Try.underlying22, Try.underlying5⟩
  · cases h
theorem env_ifc : ∀ t, eIfc t = true → ∃ ms, Try.prog.underlying t = some (.interface ms) := by
  intro t h
  unfold eIfc at h
  split at h
  · exact ⟨_, Try.underlying20⟩
  · cases h
theorem mixed : Try.prog.follows .mixedOrders = true := by kernel_rfl
theorem envOk : EnvOk Try.prog env := ⟨env_sl, env_var, env_fld, env_zero, env_knd, env_bld, env_pts, env_mp, env_byt, env_ifc⟩
theorem vsl_22 : env.sl 22 = some (.int .u8) := rfl
theorem vsl_24 : env.sl 24 = some (.sli .i64) := rfl
theorem vsl_35 : env.sl 35 = some (.int .i64) := rfl
theorem vsl_36 : env.sl 36 = some (.pt) := rfl
theorem vsl_83 : env.sl 83 = some (.st) := rfl
theorem vkn_22 : env.knd 22 = none := rfl
theorem vkn_24 : env.knd 24 = none := rfl
theorem vkn_35 : env.knd 35 = none := rfl
theorem vkn_36 : env.knd 36 = none := rfl
theorem vkn_83 : env.knd 83 = none := rfl
theorem vvar_1 : env.var 1 = some (false, 1) := rfl
theorem vvar_2 : env.var 2 = some (false, 1) := rfl
theorem vvar_3 : env.var 3 = some (false, 1) := rfl
theorem vvar_4 : env.var 4 = some (false, 1) := rfl
theorem vvar_5 : env.var 5 = some (false, 1) := rfl
theorem vvar_6 : env.var 6 = some (false, 1) := rfl
theorem vvar_8 : env.var 8 = some (true, 4) := rfl
theorem vvar_9 : env.var 9 = some (false, 1) := rfl
theorem vvar_22 : env.var 22 = some (false, 1) := rfl
theorem vvar_24 : env.var 24 = some (false, 1) := rfl
theorem vvar_26 : env.var 26 = some (true, 1) := rfl
theorem vvar_29 : env.var 29 = some (true, 2) := rfl
theorem vvar_35 : env.var 35 = some (false, 1) := rfl
theorem vvar_36 : env.var 36 = some (false, 1) := rfl
theorem vvar_49 : env.var 49 = some (false, 1) := rfl
theorem vvar_50 : env.var 50 = some (false, 1) := rfl
theorem vvar_53 : env.var 53 = some (false, 1) := rfl
theorem vvar_55 : env.var 55 = some (false, 1) := rfl
theorem vvar_64 : env.var 64 = some (false, 1) := rfl
theorem vvar_67 : env.var 67 = some (true, 3) := rfl
theorem vvar_75 : env.var 75 = some (false, 1) := rfl
theorem vvar_77 : env.var 77 = some (true, 3) := rfl
theorem vvar_83 : env.var 83 = some (false, 1) := rfl
theorem vfld_26_0 : env.fld 26 0 = some 0 := rfl
theorem vfld_29_0 : env.fld 29 0 = some 0 := rfl
theorem vfld_29_1 : env.fld 29 1 = some 1 := rfl
theorem vfld_67_0 : env.fld 67 0 = some 0 := rfl
theorem vfld_67_1 : env.fld 67 1 = some 2 := rfl
theorem vfld_77_0 : env.fld 77 0 = some 0 := rfl
theorem vfld_77_1 : env.fld 77 1 = some 1 := rfl
theorem vfld_77_2 : env.fld 77 2 = some 2 := rfl
theorem vzero_1 : env.zero 1 = some [.nilFunc] := rfl
theorem vzero_2 : env.zero 2 = some [.int .i64 0] := rfl
theorem vzero_3 : env.zero 3 = some [.int .i64 0] := rfl
theorem vzero_4 : env.zero 4 = some [.bool false] := rfl
theorem vzero_5 : env.zero 5 = some [.int .u8 0] := rfl
theorem vzero_6 : env.zero 6 = some [.int .u8 0] := rfl
theorem vzero_8 : env.zero 8 = some [.int .i64 0, .int .i64 0, .bool false, .int .u8 0] := rfl
theorem vzero_9 : env.zero 9 = some [.string ByteArray.empty] := rfl
theorem vzero_22 : env.zero 22 = some [.slice none 0 0] := rfl
theorem vzero_24 : env.zero 24 = some [.slice none 0 0] := rfl
theorem vzero_26 : env.zero 26 = some [.slice none 0 0] := rfl
theorem vzero_29 : env.zero 29 = some [.int .i64 0, .int .i64 0] := rfl
theorem vzero_35 : env.zero 35 = some [.slice none 0 0] := rfl
theorem vzero_36 : env.zero 36 = some [.slice none 0 0] := rfl
theorem vzero_49 : env.zero 49 = some [.int .u64 0] := rfl
theorem vzero_50 : env.zero 50 = some [.pointer none] := rfl
theorem vzero_53 : env.zero 53 = some [.nilFunc] := rfl
theorem vzero_55 : env.zero 55 = some [.pointer none] := rfl
theorem vzero_64 : env.zero 64 = some [.map none] := rfl
theorem vzero_67 : env.zero 67 = some [.int .i64 0, .int .i64 0, .int .i64 0] := rfl
theorem vzero_75 : env.zero 75 = some [.int .u64 0] := rfl
theorem vzero_77 : env.zero 77 = some [.slice none 0 0, .int .i64 0, .int .u64 0] := rfl
theorem vzero_83 : env.zero 83 = some [.slice none 0 0] := rfl
theorem vknd_2 : env.knd 2 = some (.int .i64) := rfl
theorem vknd_3 : env.knd 3 = some (.int .i64) := rfl
theorem vknd_4 : env.knd 4 = some (.bool) := rfl
theorem vknd_5 : env.knd 5 = some (.int .u8) := rfl
theorem vknd_6 : env.knd 6 = some (.int .u8) := rfl
theorem vknd_9 : env.knd 9 = some (.string) := rfl
theorem vknd_49 : env.knd 49 = some (.int .u64) := rfl
theorem vknd_75 : env.knd 75 = some (.int .u64) := rfl
theorem vsn_2 : env.sl 2 = none := rfl
theorem vsn_3 : env.sl 3 = none := rfl
theorem vsn_4 : env.sl 4 = none := rfl
theorem vsn_5 : env.sl 5 = none := rfl
theorem vsn_6 : env.sl 6 = none := rfl
theorem vsn_9 : env.sl 9 = none := rfl
theorem vsn_49 : env.sl 49 = none := rfl
theorem vsn_75 : env.sl 75 = none := rfl
theorem vbld_8 : env.bld 8 = some [(0, 1), (1, 1), (2, 1), (3, 1)] := rfl
theorem vbld_26 : env.bld 26 = some [(0, 1)] := rfl
theorem vbld_29 : env.bld 29 = some [(0, 1), (1, 1)] := rfl
theorem vbld_67 : env.bld 67 = some [(0, 2), (2, 1)] := rfl
theorem vbld_77 : env.bld 77 = some [(0, 1), (1, 1), (2, 1)] := rfl
theorem vmp_64 : env.mp 64 = some (.st, .int .i64 0) := rfl
theorem vbyt_22 : env.byt 22 = true := rfl
theorem vpts_29 : env.pts 29 = true := rfl
end Go.Proofs.Ytlfhhgfhoddgpaa
end
section
set_option linter.unusedSimpArgs false
set_option linter.unusedVariables false
set_option maxHeartbeats 1000000
namespace Go.Proofs.Ytlfhhgfhoddgpaa
open Go.Eng
theorem in39_ac (a b c : Int) (H : List ABox) : AC Try.prog 28 [.v (.int .i64 (a)), .v (.int .i64 (b)), .v (.int .i64 (c))] H (fun r H' => r = .v (.bool (decide (b ≤ a ∧ a ≤ c))) ∧ H' = H) := by
  refine AC.enter envOk Try.func28 rfl (by decide) Try.ntmps28 Try.results28 (by simp) fun hB => ?_
  repeat' (first | (with_reducible first | refine AW.sreg envOk fun K hK => ?_ | refine AW.region envOk fun K hK => ?_ | refine vcL_nil ?_) | (with_reducible (first | refine vcL_cons fun K' hK' => ?_); simp only [isC, Bool.false_or, Bool.or_true, ↓reduceDIte, List.take_length, Nat.le_refl, List.drop_zero, vGuard, undef, Bool.not_eq_eq_eq_not, dstOk, vcOp, vcF, isPure, putS, vcCall, St.ev, St.put, lk, AVal.ofVal, initS, Nat.reduceLT, true_and, and_true, vBin, vPick, vPart, vLoad, AVal.flat, AVal.cell, cellsOk, setRange, ETy.enc, ETy.dec, ETy.sz, ETy.d, cond, Nat.reduceBEq, Nat.reduceAdd, Int.toNat_natCast, List.length_set, List.length_append, List.length_replicate, List.length_take, Nat.reduceSub, Nat.reduceEqDiff, get_loc, setBox_loc, next_eq, List.length_cons, List.length_nil, List.map_cons, List.map_nil, List.append_nil, List.nil_append, List.cons_append, List.set_cons_zero, List.set_cons_succ, getD_zero, getD_succ, List.getElem?_cons_succ, List.getElem?_cons_zero, List.take_succ_cons, List.take_zero, List.drop_succ_cons, List.all_cons, List.all_nil, Bool.and_true, Bool.true_and, Option.bind_some, Option.map_some, Option.map_none, decide_eq_true_eq, decide_eq_false_iff_not, ne_eq, Bool.not_eq_true, Bool.not_eq_false, Decidable.not_not, not_true_eq_false, not_false_eq_true, forall_const, false_implies, Bool.true_eq_false, Bool.false_eq_true, reduceCtorEq, decide_true, decide_false, Bool.not_true, Bool.not_false, if_true, if_false, Nat.zero_add, Nat.lt_irrefl, Value.oneCell', gt_iff_lt, Nat.reduceLeDiff, Nat.lt_add_one, vvar_2, vzero_2, vknd_2, vsn_2, vvar_4, vzero_4, vknd_4, vsn_4]; try simp (disch := omega) only [wrap64]) | (with_reducible refine hK' _ ?_; clear hK' K') | (with_reducible refine hK _ ?_; clear hK K) | (with_reducible first | refine And.intro (And.intro rfl rfl) ?_ | refine And.intro (by omega) ?_) | (with_reducible refine And.intro (fun hg => ?_) (fun hg => ?_) <;> first | simp only [eq_false hg, rsB] | simp only [eq_true hg, rsB] | simp only [hg, rsB]) | (with_reducible first | refine And.intro rfl (And.intro rfl rfl) | refine thenQ_n ?_ | refine thenQ_exit ?_ | refine thenQ_ret ?_ | refine midQ_ret ?_ | refine midQ_exit ?_ | refine blockQ_same ?_ | refine blockQ_ne (by decide) ?_ | refine blockQ_ret ?_ | refine blockQ_n ?_ | refine AW.exit ?_ | refine AW.block ?_ | refine AW.cond_t rfl ?_ | refine AW.cond_f rfl ?_ | refine AW.cond_dec rfl (fun hc => ?_) (fun hc => ?_)) | (with_reducible refine AW.cond rfl (fun hc => ?_) (fun hc => ?_) <;> try simp only [Bool.not_eq_eq_eq_not, Bool.not_true, Bool.not_false, decide_eq_true_eq, decide_eq_false_iff_not] at hc) | (with_reducible first | refine AW.seq ?_ | refine AW.skip ?_ | refine AW.ret ?_ | refine And.intro ?_ ?_) | (with_reducible intro hg; first | simp only [eq_false hg, rsB] | simp only [eq_true hg, rsB]) | (with_reducible refine retQ_drop ?_; simp only [vRes, packRes, vLoad, vPart, lk, cond, Nat.reduceBEq, get_loc, getD_zero, getD_succ, true_and, List.length_cons, List.length_nil, Nat.reduceAdd, Nat.reduceLT, Nat.reduceLeDiff, List.take_succ_cons, List.take_zero, List.drop_succ_cons, List.drop_zero, vvar_2, vzero_2, vknd_2, vsn_2, vvar_4, vzero_4, vknd_4, vsn_4]) )
  all_goals refine ⟨_, _, FinOk.drop hB (Pl.ids (by (repeat' (first | exact Pl.v _ | exact Pl.junk | exact Pl.rd rfl _ | exact pl_nil | refine pl_cons ?_ ?_ | refine Pl.agg ?_ | refine Pl.tup ?_ | refine Pl.rp ?_ | refine Pl.fn ?_)); (first | done | fail))), ?_, rfl⟩
  all_goals refine v_bool ?_
  all_goals grind
theorem in68_ac (a b c : Int) (H : List ABox) : AC Try.prog 40 [.v (.int .i64 (a)), .v (.int .i64 (b)), .v (.int .i64 (c))] H (fun r H' => r = .v (.bool (decide (b ≤ a ∧ a ≤ c))) ∧ H' = H) := by
  refine AC.enter envOk Try.func40 rfl (by decide) Try.ntmps40 Try.results40 (by simp) fun hB => ?_
  repeat' (first | (with_reducible first | refine AW.sreg envOk fun K hK => ?_ | refine AW.region envOk fun K hK => ?_ | refine vcL_nil ?_) | (with_reducible (first | refine vcL_cons fun K' hK' => ?_); simp only [isC, Bool.false_or, Bool.or_true, ↓reduceDIte, List.take_length, Nat.le_refl, List.drop_zero, vGuard, undef, Bool.not_eq_eq_eq_not, dstOk, vcOp, vcF, isPure, putS, vcCall, St.ev, St.put, lk, AVal.ofVal, initS, Nat.reduceLT, true_and, and_true, vBin, vPick, vPart, vLoad, AVal.flat, AVal.cell, cellsOk, setRange, ETy.enc, ETy.dec, ETy.sz, ETy.d, cond, Nat.reduceBEq, Nat.reduceAdd, Int.toNat_natCast, List.length_set, List.length_append, List.length_replicate, List.length_take, Nat.reduceSub, Nat.reduceEqDiff, get_loc, setBox_loc, next_eq, List.length_cons, List.length_nil, List.map_cons, List.map_nil, List.append_nil, List.nil_append, List.cons_append, List.set_cons_zero, List.set_cons_succ, getD_zero, getD_succ, List.getElem?_cons_succ, List.getElem?_cons_zero, List.take_succ_cons, List.take_zero, List.drop_succ_cons, List.all_cons, List.all_nil, Bool.and_true, Bool.true_and, Option.bind_some, Option.map_some, Option.map_none, decide_eq_true_eq, decide_eq_false_iff_not, ne_eq, Bool.not_eq_true, Bool.not_eq_false, Decidable.not_not, not_true_eq_false, not_false_eq_true, forall_const, false_implies, Bool.true_eq_false, Bool.false_eq_true, reduceCtorEq, decide_true, decide_false, Bool.not_true, Bool.not_false, if_true, if_false, Nat.zero_add, Nat.lt_irrefl, Value.oneCell', gt_iff_lt, Nat.reduceLeDiff, Nat.lt_add_one, vvar_2, vzero_2, vknd_2, vsn_2, vvar_4, vzero_4, vknd_4, vsn_4]; try simp (disch := omega) only [wrap64]) | (with_reducible refine hK' _ ?_; clear hK' K') | (with_reducible refine hK _ ?_; clear hK K) | (with_reducible first | refine And.intro (And.intro rfl rfl) ?_ | refine And.intro (by omega) ?_) | (with_reducible refine And.intro (fun hg => ?_) (fun hg => ?_) <;> first | simp only [eq_false hg, rsB] | simp only [eq_true hg, rsB] | simp only [hg, rsB]) | (with_reducible first | refine And.intro rfl (And.intro rfl rfl) | refine thenQ_n ?_ | refine thenQ_exit ?_ | refine thenQ_ret ?_ | refine midQ_ret ?_ | refine midQ_exit ?_ | refine blockQ_same ?_ | refine blockQ_ne (by decide) ?_ | refine blockQ_ret ?_ | refine blockQ_n ?_ | refine AW.exit ?_ | refine AW.block ?_ | refine AW.cond_t rfl ?_ | refine AW.cond_f rfl ?_ | refine AW.cond_dec rfl (fun hc => ?_) (fun hc => ?_)) | (with_reducible refine AW.cond rfl (fun hc => ?_) (fun hc => ?_) <;> try simp only [Bool.not_eq_eq_eq_not, Bool.not_true, Bool.not_false, decide_eq_true_eq, decide_eq_false_iff_not] at hc) | (with_reducible first | refine AW.seq ?_ | refine AW.skip ?_ | refine AW.ret ?_ | refine And.intro ?_ ?_) | (with_reducible intro hg; first | simp only [eq_false hg, rsB] | simp only [eq_true hg, rsB]) | (with_reducible refine retQ_drop ?_; simp only [vRes, packRes, vLoad, vPart, lk, cond, Nat.reduceBEq, get_loc, getD_zero, getD_succ, true_and, List.length_cons, List.length_nil, Nat.reduceAdd, Nat.reduceLT, Nat.reduceLeDiff, List.take_succ_cons, List.take_zero, List.drop_succ_cons, List.drop_zero, vvar_2, vzero_2, vknd_2, vsn_2, vvar_4, vzero_4, vknd_4, vsn_4]) )
  all_goals refine ⟨_, _, FinOk.drop hB (Pl.ids (by (repeat' (first | exact Pl.v _ | exact Pl.junk | exact Pl.rd rfl _ | exact pl_nil | refine pl_cons ?_ ?_ | refine Pl.agg ?_ | refine Pl.tup ?_ | refine Pl.rp ?_ | refine Pl.fn ?_)); (first | done | fail))), ?_, rfl⟩
  all_goals refine v_bool ?_
  all_goals grind
/-- No list is longer than that. -/
def Fits (n : Nat) (m : Mz) : Prop := m.length ≤ n ∧ ∀ i, (m.getD i []).length ≤ n
theorem getD_none {m : Mz} {y : Nat} (h : ¬ y < m.length) : m.getD y [] = [] := by simp [List.getD, List.getElem?_eq_none (Nat.le_of_not_lt h)]
/-- All prices of a row are prices. -/
def RowG (xs : List Int) : Prop := ∀ x, x < xs.length → 0 ≤ xs.getD x 0 ∧ xs.getD x 0 ≤ 9
instance (xs : List Int) : Decidable (RowG xs) := by unfold RowG; exact inferInstance
theorem not41_ac (n : Int) (H : List ABox) : AC Try.prog 30 [.v (.int .i64 (n))] H (fun r H' => r = .v (.bool (!decide (0 ≤ n ∧ n ≤ 9))) ∧ H' = H) := by
  refine AC.enter envOk Try.func30 rfl (by decide) Try.ntmps30 Try.results30 (by simp) fun hB => ?_
  repeat' (first | (with_reducible first | refine AW.sreg envOk fun K hK => ?_ | refine AW.region envOk fun K hK => ?_ | refine vcL_nil ?_) | (with_reducible (first | refine vcL_cons fun K' hK' => ?_); simp only [isC, Bool.false_or, Bool.or_true, ↓reduceDIte, List.take_length, Nat.le_refl, List.drop_zero, vGuard, undef, Bool.not_eq_eq_eq_not, dstOk, vcOp, vcF, isPure, putS, vcCall, St.ev, St.put, lk, AVal.ofVal, initS, Nat.reduceLT, true_and, and_true, vUn, vPart, vLoad, AVal.flat, AVal.cell, cellsOk, setRange, ETy.enc, ETy.dec, ETy.sz, ETy.d, cond, Nat.reduceBEq, Nat.reduceAdd, Int.toNat_natCast, List.length_set, List.length_append, List.length_replicate, List.length_take, Nat.reduceSub, Nat.reduceEqDiff, get_loc, setBox_loc, next_eq, List.length_cons, List.length_nil, List.map_cons, List.map_nil, List.append_nil, List.nil_append, List.cons_append, List.set_cons_zero, List.set_cons_succ, getD_zero, getD_succ, List.getElem?_cons_succ, List.getElem?_cons_zero, List.take_succ_cons, List.take_zero, List.drop_succ_cons, List.all_cons, List.all_nil, Bool.and_true, Bool.true_and, Option.bind_some, Option.map_some, Option.map_none, decide_eq_true_eq, decide_eq_false_iff_not, ne_eq, Bool.not_eq_true, Bool.not_eq_false, Decidable.not_not, not_true_eq_false, not_false_eq_true, forall_const, false_implies, Bool.true_eq_false, Bool.false_eq_true, reduceCtorEq, decide_true, decide_false, Bool.not_true, Bool.not_false, if_true, if_false, Nat.zero_add, Nat.lt_irrefl, Value.oneCell', gt_iff_lt, Nat.reduceLeDiff, Nat.lt_add_one, vvar_2, vzero_2, vknd_2, vsn_2, vvar_4, vzero_4, vknd_4, vsn_4]; try simp (disch := omega) only [wrap64]) | (with_reducible refine hK' _ ?_; clear hK' K') | (with_reducible refine hK _ ?_; clear hK K) | (with_reducible first | refine vCall_pure (in39_ac _ _ _ _) ?_ | refine And.intro (And.intro rfl rfl) ?_ | refine And.intro (by omega) ?_) | (with_reducible refine And.intro (fun hg => ?_) (fun hg => ?_) <;> first | simp only [eq_false hg, rsB] | simp only [eq_true hg, rsB] | simp only [hg, rsB]) | (with_reducible first | refine And.intro rfl (And.intro rfl rfl) | refine thenQ_n ?_ | refine thenQ_exit ?_ | refine thenQ_ret ?_ | refine midQ_ret ?_ | refine midQ_exit ?_ | refine blockQ_same ?_ | refine blockQ_ne (by decide) ?_ | refine blockQ_ret ?_ | refine blockQ_n ?_ | refine AW.exit ?_ | refine AW.block ?_ | refine AW.cond_t rfl ?_ | refine AW.cond_f rfl ?_ | refine AW.cond_dec rfl (fun hc => ?_) (fun hc => ?_)) | (with_reducible refine AW.cond rfl (fun hc => ?_) (fun hc => ?_) <;> try simp only [Bool.not_eq_eq_eq_not, Bool.not_true, Bool.not_false, decide_eq_true_eq, decide_eq_false_iff_not] at hc) | (with_reducible first | refine AW.seq ?_ | refine AW.skip ?_ | refine AW.ret ?_ | refine And.intro ?_ ?_) | (with_reducible intro hg; first | simp only [eq_false hg, rsB] | simp only [eq_true hg, rsB]) | (with_reducible refine retQ_drop ?_; simp only [vRes, packRes, vLoad, vPart, lk, cond, Nat.reduceBEq, get_loc, getD_zero, getD_succ, true_and, List.length_cons, List.length_nil, Nat.reduceAdd, Nat.reduceLT, Nat.reduceLeDiff, List.take_succ_cons, List.take_zero, List.drop_succ_cons, List.drop_zero, vvar_2, vzero_2, vknd_2, vsn_2, vvar_4, vzero_4, vknd_4, vsn_4]) )
  exact ⟨_, _, FinOk.drop hB (Pl.ids (by (repeat' (first | exact Pl.v _ | exact Pl.junk | exact Pl.rd rfl _ | exact pl_nil | refine pl_cons ?_ ?_ | refine Pl.agg ?_ | refine Pl.tup ?_ | refine Pl.rp ?_ | refine Pl.fn ?_)); (first | done | fail))), rfl, rfl⟩
theorem idx70_ac (xs : List Int) (hx : xs.length ≤ 1000000000) (H : List ABox) : AC Try.prog 47 [.rd (.int .i64) (xs), .fn 30 []] H (fun r H' => ∃ n : Int, (0 ≤ n ↔ ¬ RowG xs) ∧ r = .v (.int .i64 (n)) ∧ H' = H) := by
  refine AC.enter envOk Try.func47 rfl (by decide) Try.ntmps47 Try.results47 (by simp) fun hB => ?_
  repeat' (first | (with_reducible first | refine AW.sreg envOk fun K hK => ?_ | refine AW.region envOk fun K hK => ?_ | refine vcL_nil ?_) | (with_reducible (first | refine vcL_cons fun K' hK' => ?_); simp only [isC, Bool.false_or, Bool.or_true, ↓reduceDIte, List.take_length, Nat.le_refl, List.drop_zero, vGuard, undef, Bool.not_eq_eq_eq_not, dstOk, vcOp, vcF, isPure, putS, vcCall, St.ev, St.put, lk, AVal.ofVal, initS, Nat.reduceLT, true_and, and_true, vBin, vPart, vLoad, vIdxA, vLen, AVal.flat, AVal.cell, cellsOk, setRange, ETy.enc, ETy.dec, ETy.sz, ETy.d, cond, Nat.reduceBEq, Nat.reduceAdd, Int.toNat_natCast, List.length_set, List.length_append, List.length_replicate, List.length_take, Nat.reduceSub, Nat.reduceEqDiff, get_loc, setBox_loc, next_eq, List.length_cons, List.length_nil, List.map_cons, List.map_nil, List.append_nil, List.nil_append, List.cons_append, List.set_cons_zero, List.set_cons_succ, getD_zero, getD_succ, List.getElem?_cons_succ, List.getElem?_cons_zero, List.take_succ_cons, List.take_zero, List.drop_succ_cons, List.all_cons, List.all_nil, Bool.and_true, Bool.true_and, Option.bind_some, Option.map_some, Option.map_none, decide_eq_true_eq, decide_eq_false_iff_not, ne_eq, Bool.not_eq_true, Bool.not_eq_false, Decidable.not_not, not_true_eq_false, not_false_eq_true, forall_const, false_implies, Bool.true_eq_false, Bool.false_eq_true, reduceCtorEq, decide_true, decide_false, Bool.not_true, Bool.not_false, if_true, if_false, Nat.zero_add, Nat.lt_irrefl, Value.oneCell', gt_iff_lt, Nat.reduceLeDiff, Nat.lt_add_one, vvar_2, vzero_2, vknd_2, vsn_2, vvar_3, vzero_3, vknd_3, vsn_3, vvar_4, vzero_4, vknd_4, vsn_4, vsl_35, vkn_35, vvar_35, vzero_35, vvar_53, vzero_53]; try simp (disch := omega) only [wrap64]) | (with_reducible refine hK' _ ?_; clear hK' K') | (with_reducible refine hK _ ?_; clear hK K) | (with_reducible first | refine And.intro (And.intro rfl rfl) ?_ | refine And.intro (by omega) ?_) | (with_reducible refine And.intro (fun hg => ?_) (fun hg => ?_) <;> first | simp only [eq_false hg, rsB] | simp only [eq_true hg, rsB] | simp only [hg, rsB]) | (with_reducible first | refine And.intro rfl (And.intro rfl rfl) | refine thenQ_n ?_ | refine thenQ_exit ?_ | refine thenQ_ret ?_ | refine midQ_ret ?_ | refine midQ_exit ?_ | refine blockQ_same ?_ | refine blockQ_ne (by decide) ?_ | refine blockQ_ret ?_ | refine blockQ_n ?_ | refine AW.exit ?_ | refine AW.block ?_ | refine AW.cond_t rfl ?_ | refine AW.cond_f rfl ?_ | refine AW.cond_dec rfl (fun hc => ?_) (fun hc => ?_)) | (with_reducible refine AW.cond rfl (fun hc => ?_) (fun hc => ?_) <;> try simp only [Bool.not_eq_eq_eq_not, Bool.not_true, Bool.not_false, decide_eq_true_eq, decide_eq_false_iff_not] at hc) | (with_reducible first | refine AW.seq ?_ | refine AW.skip ?_ | refine AW.ret ?_ | refine And.intro ?_ ?_) | (with_reducible intro hg; first | simp only [eq_false hg, rsB] | simp only [eq_true hg, rsB]) | (with_reducible refine retQ_drop ?_; simp only [vRes, packRes, vLoad, vPart, lk, cond, Nat.reduceBEq, get_loc, getD_zero, getD_succ, true_and, List.length_cons, List.length_nil, Nat.reduceAdd, Nat.reduceLT, Nat.reduceLeDiff, List.take_succ_cons, List.take_zero, List.drop_succ_cons, List.drop_zero, vvar_2, vzero_2, vknd_2, vsn_2, vvar_3, vzero_3, vknd_3, vsn_3, vvar_4, vzero_4, vknd_4, vsn_4, vsl_35, vkn_35, vvar_35, vzero_35, vvar_53, vzero_53]) )
  refine AW.loop (fun i : Nat => (⟨19, [(0, .rd (.int .i64) (xs)), (1, .fn 30 []), (7, .v (.int .i64 ((xs.length : Int)))), (8, .v (.int .i64 ((i : Int))))], H, []⟩ : St)) (fun i => i ≤ xs.length ∧ ∀ j, j < i → 0 ≤ xs.getD j 0 ∧ xs.getD j 0 ≤ 9) (fun i => xs.length - i) 0 ⟨Nat.zero_le _, fun j h => absurd h (by omega)⟩ (Weak.slots (by repeat' first | exact trivial | exact ⟨rfl, trivial⟩ | refine ⟨rfl, ?_⟩)) ?_
  intro i ⟨hi, hI⟩
  repeat' (first | (with_reducible first | refine AW.sreg envOk fun K hK => ?_ | refine AW.region envOk fun K hK => ?_ | refine vcL_nil ?_) | (with_reducible (first | refine vcL_cons fun K' hK' => ?_); simp only [isC, Bool.false_or, Bool.or_true, ↓reduceDIte, List.take_length, Nat.le_refl, List.drop_zero, vGuard, undef, Bool.not_eq_eq_eq_not, dstOk, vcOp, vcF, isPure, putS, vcCall, St.ev, St.put, lk, AVal.ofVal, initS, Nat.reduceLT, true_and, and_true, vBin, vPart, vLoad, vIdxA, vLen, AVal.flat, AVal.cell, cellsOk, setRange, ETy.enc, ETy.dec, ETy.sz, ETy.d, cond, Nat.reduceBEq, Nat.reduceAdd, Int.toNat_natCast, List.length_set, List.length_append, List.length_replicate, List.length_take, Nat.reduceSub, Nat.reduceEqDiff, get_loc, setBox_loc, next_eq, List.length_cons, List.length_nil, List.map_cons, List.map_nil, List.append_nil, List.nil_append, List.cons_append, List.set_cons_zero, List.set_cons_succ, getD_zero, getD_succ, List.getElem?_cons_succ, List.getElem?_cons_zero, List.take_succ_cons, List.take_zero, List.drop_succ_cons, List.all_cons, List.all_nil, Bool.and_true, Bool.true_and, Option.bind_some, Option.map_some, Option.map_none, decide_eq_true_eq, decide_eq_false_iff_not, ne_eq, Bool.not_eq_true, Bool.not_eq_false, Decidable.not_not, not_true_eq_false, not_false_eq_true, forall_const, false_implies, Bool.true_eq_false, Bool.false_eq_true, reduceCtorEq, decide_true, decide_false, Bool.not_true, Bool.not_false, if_true, if_false, Nat.zero_add, Nat.lt_irrefl, Value.oneCell', gt_iff_lt, Nat.reduceLeDiff, Nat.lt_add_one, vvar_2, vzero_2, vknd_2, vsn_2, vvar_3, vzero_3, vknd_3, vsn_3, vvar_4, vzero_4, vknd_4, vsn_4, vsl_35, vkn_35, vvar_35, vzero_35, vvar_53, vzero_53]; try simp (disch := omega) only [wrap64]) | (with_reducible refine hK' _ ?_; clear hK' K') | (with_reducible refine hK _ ?_; clear hK K) | (with_reducible first | refine vCall_pure (not41_ac _ _) ?_ | refine And.intro (And.intro rfl rfl) ?_ | refine And.intro (by omega) ?_) | (with_reducible refine And.intro (fun hg => ?_) (fun hg => ?_) <;> first | simp only [eq_false hg, rsB] | simp only [eq_true hg, rsB] | simp only [hg, rsB]) | (with_reducible first | refine And.intro rfl (And.intro rfl rfl) | refine thenQ_n ?_ | refine thenQ_exit ?_ | refine thenQ_ret ?_ | refine midQ_ret ?_ | refine midQ_exit ?_ | refine blockQ_same ?_ | refine blockQ_ne (by decide) ?_ | refine blockQ_ret ?_ | refine blockQ_n ?_ | refine AW.exit ?_ | refine AW.block ?_ | refine AW.cond_t rfl ?_ | refine AW.cond_f rfl ?_ | refine AW.cond_dec rfl (fun hc => ?_) (fun hc => ?_)) | (with_reducible refine AW.cond rfl (fun hc => ?_) (fun hc => ?_) <;> try simp only [Bool.not_eq_eq_eq_not, Bool.not_true, Bool.not_false, decide_eq_true_eq, decide_eq_false_iff_not] at hc) | (with_reducible first | refine AW.seq ?_ | refine AW.skip ?_ | refine AW.ret ?_ | refine And.intro ?_ ?_) | (with_reducible intro hg; first | simp only [eq_false hg, rsB] | simp only [eq_true hg, rsB]) | (with_reducible refine retQ_drop ?_; simp only [vRes, packRes, vLoad, vPart, lk, cond, Nat.reduceBEq, get_loc, getD_zero, getD_succ, true_and, List.length_cons, List.length_nil, Nat.reduceAdd, Nat.reduceLT, Nat.reduceLeDiff, List.take_succ_cons, List.take_zero, List.drop_succ_cons, List.drop_zero, vvar_2, vzero_2, vknd_2, vsn_2, vvar_3, vzero_3, vknd_3, vsn_3, vvar_4, vzero_4, vknd_4, vsn_4, vsl_35, vkn_35, vvar_35, vzero_35, vvar_53, vzero_53]) )
  · exact ⟨_, _, FinOk.drop hB (.v _), (i : Int), ⟨fun _ h => absurd (h i (by omega)) (by assumption), fun _ => by omega⟩, rfl, rfl⟩
  · refine ⟨i + 1, ⟨by omega, fun j hj => ?_⟩, by omega, (Weak.slots (by repeat' first | exact trivial | exact ⟨rfl, trivial⟩ | refine ⟨rfl, ?_⟩))⟩
    by_cases e : j = i
    · subst e; assumption
    · exact hI j (by omega)
  · exact ⟨_, _, FinOk.drop hB (.v _), (-1 : Int), ⟨fun h => absurd h (by omega), fun h => absurd (fun j hj => hI j (by omega)) h⟩, rfl, rfl⟩
theorem cont40_ac (xs : List Int) (hx : xs.length ≤ 1000000000) (H : List ABox) : AC Try.prog 29 [.rd (.int .i64) (xs), .fn 30 []] H (fun r H' => r = .v (.bool (!decide (RowG xs))) ∧ H' = H) := by
  refine AC.enter envOk Try.func29 rfl (by decide) Try.ntmps29 Try.results29 (by simp) fun hB => ?_
  repeat' (first | (with_reducible first | refine AW.sreg envOk fun K hK => ?_ | refine AW.region envOk fun K hK => ?_ | refine vcL_nil ?_) | (with_reducible (first | refine vcL_cons fun K' hK' => ?_); simp only [isC, Bool.false_or, Bool.or_true, ↓reduceDIte, List.take_length, Nat.le_refl, List.drop_zero, vGuard, undef, Bool.not_eq_eq_eq_not, dstOk, vcOp, vcF, isPure, putS, vcCall, St.ev, St.put, lk, AVal.ofVal, initS, Nat.reduceLT, true_and, and_true, vBin, vPart, vLoad, AVal.flat, AVal.cell, cellsOk, setRange, ETy.enc, ETy.dec, ETy.sz, ETy.d, cond, Nat.reduceBEq, Nat.reduceAdd, Int.toNat_natCast, List.length_set, List.length_append, List.length_replicate, List.length_take, Nat.reduceSub, Nat.reduceEqDiff, get_loc, setBox_loc, next_eq, List.length_cons, List.length_nil, List.map_cons, List.map_nil, List.append_nil, List.nil_append, List.cons_append, List.set_cons_zero, List.set_cons_succ, getD_zero, getD_succ, List.getElem?_cons_succ, List.getElem?_cons_zero, List.take_succ_cons, List.take_zero, List.drop_succ_cons, List.all_cons, List.all_nil, Bool.and_true, Bool.true_and, Option.bind_some, Option.map_some, Option.map_none, decide_eq_true_eq, decide_eq_false_iff_not, ne_eq, Bool.not_eq_true, Bool.not_eq_false, Decidable.not_not, not_true_eq_false, not_false_eq_true, forall_const, false_implies, Bool.true_eq_false, Bool.false_eq_true, reduceCtorEq, decide_true, decide_false, Bool.not_true, Bool.not_false, if_true, if_false, Nat.zero_add, Nat.lt_irrefl, Value.oneCell', gt_iff_lt, Nat.reduceLeDiff, Nat.lt_add_one, vvar_3, vzero_3, vknd_3, vsn_3, vvar_4, vzero_4, vknd_4, vsn_4, vsl_35, vkn_35, vvar_35, vzero_35, vvar_53, vzero_53]; try simp (disch := omega) only [wrap64]) | (with_reducible refine hK' _ ?_; clear hK' K') | (with_reducible refine hK _ ?_; clear hK K) | (with_reducible first | refine vCall_ex (idx70_ac xs hx _) (fun n hn => ?_) | refine And.intro (And.intro rfl rfl) ?_ | refine And.intro (by omega) ?_) | (with_reducible refine And.intro (fun hg => ?_) (fun hg => ?_) <;> first | simp only [eq_false hg, rsB] | simp only [eq_true hg, rsB] | simp only [hg, rsB]) | (with_reducible first | refine And.intro rfl (And.intro rfl rfl) | refine thenQ_n ?_ | refine thenQ_exit ?_ | refine thenQ_ret ?_ | refine midQ_ret ?_ | refine midQ_exit ?_ | refine blockQ_same ?_ | refine blockQ_ne (by decide) ?_ | refine blockQ_ret ?_ | refine blockQ_n ?_ | refine AW.exit ?_ | refine AW.block ?_ | refine AW.cond_t rfl ?_ | refine AW.cond_f rfl ?_ | refine AW.cond_dec rfl (fun hc => ?_) (fun hc => ?_)) | (with_reducible refine AW.cond rfl (fun hc => ?_) (fun hc => ?_) <;> try simp only [Bool.not_eq_eq_eq_not, Bool.not_true, Bool.not_false, decide_eq_true_eq, decide_eq_false_iff_not] at hc) | (with_reducible first | refine AW.seq ?_ | refine AW.skip ?_ | refine AW.ret ?_ | refine And.intro ?_ ?_) | (with_reducible intro hg; first | simp only [eq_false hg, rsB] | simp only [eq_true hg, rsB]) | (with_reducible refine retQ_drop ?_; simp only [vRes, packRes, vLoad, vPart, lk, cond, Nat.reduceBEq, get_loc, getD_zero, getD_succ, true_and, List.length_cons, List.length_nil, Nat.reduceAdd, Nat.reduceLT, Nat.reduceLeDiff, List.take_succ_cons, List.take_zero, List.drop_succ_cons, List.drop_zero, vvar_3, vzero_3, vknd_3, vsn_3, vvar_4, vzero_4, vknd_4, vsn_4, vsl_35, vkn_35, vvar_35, vzero_35, vvar_53, vzero_53]) )
  refine ⟨_, _, FinOk.drop hB (Pl.ids (by (repeat' (first | exact Pl.v _ | exact Pl.junk | exact Pl.rd rfl _ | exact pl_nil | refine pl_cons ?_ ?_ | refine Pl.agg ?_ | refine Pl.tup ?_ | refine Pl.rp ?_ | refine Pl.fn ?_)); (first | done | fail))), ?_, rfl⟩
  by_cases h : RowG xs
  · rw [decide_eq_true h, decide_eq_false (fun h' => hn.1 h' h)]; rfl
  · rw [decide_eq_false h, decide_eq_true (hn.2 h)]; rfl
theorem is14_ac (m : Mz) (hm : Fits 1048576 m) (H : List ABox) : AC Try.prog 11 [.agg [.rd (.sli .i64) (m)]] H (fun r H' => r = .v (.bool (decide (MzOk m))) ∧ H' = H) := by
  obtain ⟨hm1, hm2⟩ := hm
  have h0 := hm2 0
  refine AC.enter envOk Try.func11 rfl (by decide) Try.ntmps11 Try.results11 (by simp) fun hB => ?_
  repeat' (first | (with_reducible first | refine AW.sreg envOk fun K hK => ?_ | refine AW.region envOk fun K hK => ?_ | refine vcL_nil ?_) | (with_reducible (first | refine vcL_cons fun K' hK' => ?_); simp only [isC, Bool.false_or, Bool.or_true, ↓reduceDIte, List.take_length, Nat.le_refl, List.drop_zero, vGuard, undef, Bool.not_eq_eq_eq_not, dstOk, vcOp, vcF, isPure, putS, vcCall, St.ev, St.put, lk, AVal.ofVal, initS, Nat.reduceLT, true_and, and_true, vBin, vUn, vPick, vPart, vLoad, vIdxA, vFldA, vLen, vBox, partsA, fillA, decAll, AVal.flat, AVal.cell, cellsOk, setRange, ETy.enc, ETy.dec, ETy.sz, ETy.d, cond, Nat.reduceBEq, Nat.reduceAdd, Int.toNat_natCast, List.length_set, List.length_append, List.length_replicate, List.length_take, Nat.reduceSub, Nat.reduceEqDiff, get_loc, setBox_loc, next_eq, List.length_cons, List.length_nil, List.map_cons, List.map_nil, List.append_nil, List.nil_append, List.cons_append, List.set_cons_zero, List.set_cons_succ, getD_zero, getD_succ, List.getElem?_cons_succ, List.getElem?_cons_zero, List.take_succ_cons, List.take_zero, List.drop_succ_cons, List.all_cons, List.all_nil, Bool.and_true, Bool.true_and, Option.bind_some, Option.map_some, Option.map_none, decide_eq_true_eq, decide_eq_false_iff_not, ne_eq, Bool.not_eq_true, Bool.not_eq_false, Decidable.not_not, not_true_eq_false, not_false_eq_true, forall_const, false_implies, Bool.true_eq_false, Bool.false_eq_true, reduceCtorEq, decide_true, decide_false, Bool.not_true, Bool.not_false, if_true, if_false, Nat.zero_add, Nat.lt_irrefl, Value.oneCell', gt_iff_lt, Nat.reduceLeDiff, Nat.lt_add_one, vvar_3, vzero_3, vknd_3, vsn_3, vvar_4, vzero_4, vknd_4, vsn_4, vsl_24, vkn_24, vvar_24, vzero_24, vvar_26, vzero_26, vbld_26, vsl_35, vkn_35, vvar_35, vzero_35, vfld_26_0, Int.toNat_zero, Int.reduceToNat]; try simp (disch := omega) only [wrap64]) | (with_reducible refine hK' _ ?_; clear hK' K') | (with_reducible refine hK _ ?_; clear hK K) | (with_reducible first | refine vCall_pure (in39_ac _ _ _ _) ?_ | refine And.intro (And.intro rfl rfl) ?_ | refine And.intro (by omega) ?_) | (with_reducible refine And.intro (fun hg => ?_) (fun hg => ?_) <;> first | simp only [eq_false hg, rsB] | simp only [eq_true hg, rsB] | simp only [hg, rsB]) | (with_reducible first | refine And.intro rfl (And.intro rfl rfl) | refine thenQ_n ?_ | refine thenQ_exit ?_ | refine thenQ_ret ?_ | refine midQ_ret ?_ | refine midQ_exit ?_ | refine blockQ_same ?_ | refine blockQ_ne (by decide) ?_ | refine blockQ_ret ?_ | refine blockQ_n ?_ | refine AW.exit ?_ | refine AW.block ?_ | refine AW.cond_t rfl ?_ | refine AW.cond_f rfl ?_ | refine AW.cond_dec rfl (fun hc => ?_) (fun hc => ?_)) | (with_reducible refine AW.cond rfl (fun hc => ?_) (fun hc => ?_) <;> try simp only [Bool.not_eq_eq_eq_not, Bool.not_true, Bool.not_false, decide_eq_true_eq, decide_eq_false_iff_not] at hc) | (with_reducible first | refine AW.seq ?_ | refine AW.skip ?_ | refine AW.ret ?_ | refine And.intro ?_ ?_) | (with_reducible intro hg; first | simp only [eq_false hg, rsB] | simp only [eq_true hg, rsB]) | (with_reducible refine retQ_drop ?_; simp only [vRes, packRes, vLoad, vPart, lk, cond, Nat.reduceBEq, get_loc, getD_zero, getD_succ, true_and, List.length_cons, List.length_nil, Nat.reduceAdd, Nat.reduceLT, Nat.reduceLeDiff, List.take_succ_cons, List.take_zero, List.drop_succ_cons, List.drop_zero, vvar_3, vzero_3, vknd_3, vsn_3, vvar_4, vzero_4, vknd_4, vsn_4, vsl_24, vkn_24, vvar_24, vzero_24, vvar_26, vzero_26, vbld_26, vsl_35, vkn_35, vvar_35, vzero_35, vfld_26_0]) )
  all_goals first
    | (refine ⟨_, _, FinOk.drop hB (Pl.ids (by (repeat' (first | exact Pl.v _ | exact Pl.junk | exact Pl.rd rfl _ | exact pl_nil | refine pl_cons ?_ ?_ | refine Pl.agg ?_ | refine Pl.tup ?_ | refine Pl.rp ?_ | refine Pl.fn ?_)); (first | done | fail))), ?_, rfl⟩
       refine v_bool ?_
       simp only [Bool.false_eq_true, false_iff]
       intro h; have h1 := h.1; have h2 := h.2.1; unfold width at h2; omega)
    | skip
  refine AW.loop (fun y : Nat => (⟨39, [(1, .ptr 1 (H.length + 0) 0 0), (20, .rd (.sli .i64) (m)), (21, .v (.int .i64 ((m.length : Int)))), (22, .v (.int .i64 ((y : Int))))], H, [.box false [.rd (.sli .i64) (m)]]⟩ : St)) (fun y => y ≤ m.length ∧ ∀ j, j < y → RowIs (width m) (m.getD j [])) (fun y => m.length - y) 0 ⟨Nat.zero_le _, fun j h => absurd h (by omega)⟩ (Weak.slots (by repeat' first | exact trivial | exact ⟨rfl, trivial⟩ | refine ⟨rfl, ?_⟩)) ?_
  intro y ⟨hy, hY⟩
  have hl := hm2 y
  repeat' (first | (with_reducible first | refine AW.sreg envOk fun K hK => ?_ | refine AW.region envOk fun K hK => ?_ | refine vcL_nil ?_) | (with_reducible (first | refine vcL_cons fun K' hK' => ?_); simp only [isC, Bool.false_or, Bool.or_true, ↓reduceDIte, List.take_length, Nat.le_refl, List.drop_zero, vGuard, undef, Bool.not_eq_eq_eq_not, dstOk, vcOp, vcF, isPure, putS, vcCall, St.ev, St.put, lk, AVal.ofVal, initS, Nat.reduceLT, true_and, and_true, vBin, vUn, vPick, vPart, vLoad, vIdxA, vFldA, vLen, vBox, partsA, fillA, decAll, AVal.flat, AVal.cell, cellsOk, setRange, ETy.enc, ETy.dec, ETy.sz, ETy.d, cond, Nat.reduceBEq, Nat.reduceAdd, Int.toNat_natCast, List.length_set, List.length_append, List.length_replicate, List.length_take, Nat.reduceSub, Nat.reduceEqDiff, get_loc, setBox_loc, next_eq, List.length_cons, List.length_nil, List.map_cons, List.map_nil, List.append_nil, List.nil_append, List.cons_append, List.set_cons_zero, List.set_cons_succ, getD_zero, getD_succ, List.getElem?_cons_succ, List.getElem?_cons_zero, List.take_succ_cons, List.take_zero, List.drop_succ_cons, List.all_cons, List.all_nil, Bool.and_true, Bool.true_and, Option.bind_some, Option.map_some, Option.map_none, decide_eq_true_eq, decide_eq_false_iff_not, ne_eq, Bool.not_eq_true, Bool.not_eq_false, Decidable.not_not, not_true_eq_false, not_false_eq_true, forall_const, false_implies, Bool.true_eq_false, Bool.false_eq_true, reduceCtorEq, decide_true, decide_false, Bool.not_true, Bool.not_false, if_true, if_false, Nat.zero_add, Nat.lt_irrefl, Value.oneCell', gt_iff_lt, Nat.reduceLeDiff, Nat.lt_add_one, vvar_3, vzero_3, vknd_3, vsn_3, vvar_4, vzero_4, vknd_4, vsn_4, vsl_24, vkn_24, vvar_24, vzero_24, vvar_26, vzero_26, vbld_26, vsl_35, vkn_35, vvar_35, vzero_35, vfld_26_0, Int.toNat_zero, Int.reduceToNat]; try simp (disch := omega) only [wrap64]) | (with_reducible refine hK' _ ?_; clear hK' K') | (with_reducible refine hK _ ?_; clear hK K) | (with_reducible first | refine vCall_pure (in39_ac _ _ _ _) ?_ | refine vCall_pure (cont40_ac _ (by omega) _) ?_ | refine And.intro (And.intro rfl rfl) ?_ | refine And.intro (by omega) ?_) | (with_reducible refine And.intro (fun hg => ?_) (fun hg => ?_) <;> first | simp only [eq_false hg, rsB] | simp only [eq_true hg, rsB] | simp only [hg, rsB]) | (with_reducible first | refine And.intro rfl (And.intro rfl rfl) | refine thenQ_n ?_ | refine thenQ_exit ?_ | refine thenQ_ret ?_ | refine midQ_ret ?_ | refine midQ_exit ?_ | refine blockQ_same ?_ | refine blockQ_ne (by decide) ?_ | refine blockQ_ret ?_ | refine blockQ_n ?_ | refine AW.exit ?_ | refine AW.block ?_ | refine AW.cond_t rfl ?_ | refine AW.cond_f rfl ?_ | refine AW.cond_dec rfl (fun hc => ?_) (fun hc => ?_)) | (with_reducible refine AW.cond rfl (fun hc => ?_) (fun hc => ?_) <;> try simp only [Bool.not_eq_eq_eq_not, Bool.not_true, Bool.not_false, decide_eq_true_eq, decide_eq_false_iff_not] at hc) | (with_reducible first | refine AW.seq ?_ | refine AW.skip ?_ | refine AW.ret ?_ | refine And.intro ?_ ?_) | (with_reducible intro hg; first | simp only [eq_false hg, rsB] | simp only [eq_true hg, rsB]) | (with_reducible refine retQ_drop ?_; simp only [vRes, packRes, vLoad, vPart, lk, cond, Nat.reduceBEq, get_loc, getD_zero, getD_succ, true_and, List.length_cons, List.length_nil, Nat.reduceAdd, Nat.reduceLT, Nat.reduceLeDiff, List.take_succ_cons, List.take_zero, List.drop_succ_cons, List.drop_zero, vvar_3, vzero_3, vknd_3, vsn_3, vvar_4, vzero_4, vknd_4, vsn_4, vsl_24, vkn_24, vvar_24, vzero_24, vvar_26, vzero_26, vbld_26, vsl_35, vkn_35, vvar_35, vzero_35, vfld_26_0]) )
  all_goals first
    | (refine ⟨_, _, FinOk.drop hB (Pl.ids (by (repeat' (first | exact Pl.v _ | exact Pl.junk | exact Pl.rd rfl _ | exact pl_nil | refine pl_cons ?_ ?_ | refine Pl.agg ?_ | refine Pl.tup ?_ | refine Pl.rp ?_ | refine Pl.fn ?_)); (first | done | fail))), ?_, rfl⟩
       refine v_bool ?_
       simp only [Bool.false_eq_true, false_iff]
       intro h
       have h1 := h.2.2 y (by omega)
       have h2 := h1.1
       unfold width at h2
       first | omega | exact absurd h1.2 (by assumption))
    | (refine ⟨y + 1, ⟨by omega, fun j hj => ?_⟩, by omega, (Weak.slots (by repeat' first | exact trivial | exact ⟨rfl, trivial⟩ | refine ⟨rfl, ?_⟩))⟩
       by_cases e : j = y
       · subst e
         refine ⟨by unfold width; omega, by assumption⟩
       · exact hY j (by omega))
    | (refine ⟨_, _, FinOk.drop hB (Pl.ids (by (repeat' (first | exact Pl.v _ | exact Pl.junk | exact Pl.rd rfl _ | exact pl_nil | refine pl_cons ?_ ?_ | refine Pl.agg ?_ | refine Pl.tup ?_ | refine Pl.rp ?_ | refine Pl.fn ?_)); (first | done | fail))), ?_, rfl⟩
       refine v_bool ?_
       simp only [true_iff]
       exact ⟨by omega, by unfold width; omega, fun j hj => hY j (by omega)⟩)
theorem Fits.of {m : Mz} (h : m.length ≤ maxLen) (hw : ∀ y ∈ m, (ETy.sli .i64).wf y) : Fits 9223372036854775807 m := ⟨h, fun i => by
  by_cases hi : i < m.length
  · have hmem : m.getD i [] ∈ m := by
      simp only [List.getD, List.getElem?_eq_getElem hi, Option.getD_some]; exact List.getElem_mem hi
    exact (hw _ hmem).1
  · rw [getD_none hi]; simp⟩
end Go.Proofs.Ytlfhhgfhoddgpaa
end
section
set_option linter.unusedSimpArgs false
set_option linter.unusedVariables false
set_option maxHeartbeats 1000000
namespace Go.Proofs.Ytlfhhgfhoddgpaa
open Go.Eng
theorem open55_ac (m : Mz) (p : Pt) (hm : MzOk m) (H : List ABox) : AC Try.prog 23 [.rp [.rd (.sli .i64) (m)] 0, .agg [.v (.int .i64 (p).1), .v (.int .i64 (p).2)]] H (fun r H' => r = .v (.bool (decide (OpenAt m p))) ∧ H' = H) := by
  obtain ⟨h1, h2, h3⟩ := hm
  have hr := h3 p.2.toNat
  unfold width RowIs at *
  have hr1 : 0 ≤ p.2 ∧ p.2 ≤ (m.length : Int) - 1 → (m.getD p.2.toNat []).length = (m.getD 0 []).length := fun h => (hr (by omega)).1
  refine AC.enter envOk Try.func23 rfl (by decide) Try.ntmps23 Try.results23 (by simp) fun hB => ?_
  repeat' (first | (with_reducible first | refine AW.sreg envOk fun K hK => ?_ | refine AW.region envOk fun K hK => ?_) | (with_reducible refine AW.d0reg envOk mixed ?_ ?_ fun K hK => ?_; (first | rfl | exact base_len | exact base_len0); kernel_rfl) | (with_reducible refine AW.d0 envOk mixed ?_ ?_ fun K hK => ?_; (first | rfl | exact base_len | exact base_len0); kernel_rfl) | (with_reducible first | refine vcD_nil ?_ | refine vcL_nil ?_) | (with_reducible (first | refine vcD_cons fun K' hK' => ?_ | refine vcL_cons fun K' hK' => ?_); simp only [isC, Bool.false_or, Bool.or_true, ↓reduceDIte, List.take_length, Nat.le_refl, List.drop_zero, vGuard, undef, Bool.not_eq_eq_eq_not, dstOk, vcOp, vcF, isPure, putS, vcCall, St.ev, St.put, lk, AVal.ofVal, initS, Nat.reduceLT, true_and, and_true, vBin, vPick, vPart, vLoad, vIdxA, vFldA, vLen, vNil, vBox, partsA, fillA, decAll, AVal.flat, AVal.cell, cellsOk, setRange, ETy.enc, ETy.dec, ETy.sz, ETy.d, cond, Nat.reduceBEq, Nat.reduceAdd, Int.toNat_natCast, List.length_set, List.length_append, List.length_replicate, List.length_take, Nat.reduceSub, Nat.reduceEqDiff, get_loc, setBox_loc, next_eq, List.length_cons, List.length_nil, List.map_cons, List.map_nil, List.append_nil, List.nil_append, List.cons_append, List.set_cons_zero, List.set_cons_succ, getD_zero, getD_succ, List.getElem?_cons_succ, List.getElem?_cons_zero, List.take_succ_cons, List.take_zero, List.drop_succ_cons, List.all_cons, List.all_nil, Bool.and_true, Bool.true_and, Option.bind_some, Option.map_some, Option.map_none, decide_eq_true_eq, decide_eq_false_iff_not, ne_eq, Bool.not_eq_true, Bool.not_eq_false, Decidable.not_not, not_true_eq_false, not_false_eq_true, forall_const, false_implies, Bool.true_eq_false, Bool.false_eq_true, reduceCtorEq, decide_true, decide_false, Bool.not_true, Bool.not_false, if_true, if_false, Nat.zero_add, Nat.lt_irrefl, Value.oneCell', gt_iff_lt, Nat.reduceLeDiff, Nat.lt_add_one, vvar_2, vzero_2, vknd_2, vsn_2, vvar_3, vzero_3, vknd_3, vsn_3, vvar_4, vzero_4, vknd_4, vsn_4, vsl_24, vkn_24, vvar_24, vzero_24, vvar_26, vzero_26, vbld_26, vvar_29, vzero_29, vbld_29, vpts_29, vsl_35, vkn_35, vvar_35, vzero_35, vvar_55, vzero_55, vfld_26_0, vfld_29_0, vfld_29_1, Int.toNat_zero, Int.reduceToNat]; try simp (disch := omega) only [wrap64]) | (with_reducible refine hK' _ ?_; clear hK' K') | (with_reducible refine hK _ ?_; clear hK K) | (with_reducible first | refine vcC_pure (in68_ac _ _ _ _) ?_ | refine vCall_pure (in68_ac _ _ _ _) ?_ | refine And.intro (And.intro rfl rfl) ?_ | refine And.intro (by omega) ?_) | (with_reducible refine And.intro (fun hg => ?_) (fun hg => ?_) <;> first | simp only [eq_false hg, rsB] | simp only [eq_true hg, rsB] | simp only [hg, rsB]) | (with_reducible first | refine And.intro rfl (And.intro rfl rfl) | refine thenQ_n ?_ | refine thenQ_exit ?_ | refine thenQ_ret ?_ | refine midQ_ret ?_ | refine midQ_exit ?_ | refine blockQ_same ?_ | refine blockQ_ne (by decide) ?_ | refine blockQ_ret ?_ | refine blockQ_n ?_ | refine AW.exit ?_ | refine AW.block ?_ | refine AW.cond_t rfl ?_ | refine AW.cond_f rfl ?_ | refine AW.cond_dec rfl (fun hc => ?_) (fun hc => ?_)) | (with_reducible refine AW.cond rfl (fun hc => ?_) (fun hc => ?_) <;> try simp only [Bool.not_eq_eq_eq_not, Bool.not_true, Bool.not_false, decide_eq_true_eq, decide_eq_false_iff_not] at hc) | (with_reducible first | refine AW.seq ?_ | refine AW.skip ?_ | refine AW.ret ?_ | refine And.intro ?_ ?_) | (with_reducible intro hg; first | simp only [eq_false hg, rsB] | simp only [eq_true hg, rsB]) | (with_reducible refine retQ_drop ?_; simp only [vRes, packRes, vLoad, vPart, lk, cond, Nat.reduceBEq, get_loc, getD_zero, getD_succ, true_and, List.length_cons, List.length_nil, Nat.reduceAdd, Nat.reduceLT, Nat.reduceLeDiff, List.take_succ_cons, List.take_zero, List.drop_succ_cons, List.drop_zero, vvar_2, vzero_2, vknd_2, vsn_2, vvar_3, vzero_3, vknd_3, vsn_3, vvar_4, vzero_4, vknd_4, vsn_4, vsl_24, vkn_24, vvar_24, vzero_24, vvar_26, vzero_26, vbld_26, vvar_29, vzero_29, vbld_29, vpts_29, vsl_35, vkn_35, vvar_35, vzero_35, vvar_55, vzero_55, vfld_26_0, vfld_29_0, vfld_29_1]) )
  all_goals refine ⟨_, _, FinOk.drop hB (Pl.ids (by (repeat' (first | exact Pl.v _ | exact Pl.junk | exact Pl.rd rfl _ | exact pl_nil | refine pl_cons ?_ ?_ | refine Pl.agg ?_ | refine Pl.tup ?_ | refine Pl.rp ?_ | refine Pl.fn ?_)); (first | done | fail))), ?_, rfl⟩
  all_goals refine v_bool ?_
  all_goals first
    | (simp only [Bool.false_eq_true, false_iff]
       intro h
       first | exact absurd h.1.1 (by assumption) | exact absurd h.1.2 (by assumption))
    | (simp only [decide_eq_true_eq]
       exact ⟨fun h => ⟨⟨by assumption, by assumption⟩, h⟩, fun h => h.2⟩)
theorem has59_ac (m : Mz) (p : Pt) (hm : MzOk m) (H : List ABox) : AC Try.prog 48 [.rp [.rd (.sli .i64) (m)] 0, .agg [.v (.int .i64 (p).1), .v (.int .i64 (p).2)]] H (fun r H' => r = .v (.bool (decide (InMz m p))) ∧ H' = H) := by
  obtain ⟨h1, h2, h3⟩ := hm
  unfold width at *
  refine AC.enter envOk Try.func48 rfl (by decide) Try.ntmps48 Try.results48 (by simp) fun hB => ?_
  repeat' (first | (with_reducible first | refine AW.sreg envOk fun K hK => ?_ | refine AW.region envOk fun K hK => ?_) | (with_reducible refine AW.d0reg envOk mixed ?_ ?_ fun K hK => ?_; (first | rfl | exact base_len | exact base_len0); kernel_rfl) | (with_reducible refine AW.d0 envOk mixed ?_ ?_ fun K hK => ?_; (first | rfl | exact base_len | exact base_len0); kernel_rfl) | (with_reducible first | refine vcD_nil ?_ | refine vcL_nil ?_) | (with_reducible (first | refine vcD_cons fun K' hK' => ?_ | refine vcL_cons fun K' hK' => ?_); simp only [isC, Bool.false_or, Bool.or_true, ↓reduceDIte, List.take_length, Nat.le_refl, List.drop_zero, vGuard, undef, Bool.not_eq_eq_eq_not, dstOk, vcOp, vcF, isPure, putS, vcCall, St.ev, St.put, lk, AVal.ofVal, initS, Nat.reduceLT, true_and, and_true, vBin, vPick, vPart, vLoad, vIdxA, vFldA, vLen, vNil, vBox, partsA, fillA, decAll, AVal.flat, AVal.cell, cellsOk, setRange, ETy.enc, ETy.dec, ETy.sz, ETy.d, cond, Nat.reduceBEq, Nat.reduceAdd, Int.toNat_natCast, List.length_set, List.length_append, List.length_replicate, List.length_take, Nat.reduceSub, Nat.reduceEqDiff, get_loc, setBox_loc, next_eq, List.length_cons, List.length_nil, List.map_cons, List.map_nil, List.append_nil, List.nil_append, List.cons_append, List.set_cons_zero, List.set_cons_succ, getD_zero, getD_succ, List.getElem?_cons_succ, List.getElem?_cons_zero, List.take_succ_cons, List.take_zero, List.drop_succ_cons, List.all_cons, List.all_nil, Bool.and_true, Bool.true_and, Option.bind_some, Option.map_some, Option.map_none, decide_eq_true_eq, decide_eq_false_iff_not, ne_eq, Bool.not_eq_true, Bool.not_eq_false, Decidable.not_not, not_true_eq_false, not_false_eq_true, forall_const, false_implies, Bool.true_eq_false, Bool.false_eq_true, reduceCtorEq, decide_true, decide_false, Bool.not_true, Bool.not_false, if_true, if_false, Nat.zero_add, Nat.lt_irrefl, Value.oneCell', gt_iff_lt, Nat.reduceLeDiff, Nat.lt_add_one, vvar_2, vzero_2, vknd_2, vsn_2, vvar_3, vzero_3, vknd_3, vsn_3, vvar_4, vzero_4, vknd_4, vsn_4, vsl_24, vkn_24, vvar_24, vzero_24, vvar_26, vzero_26, vbld_26, vvar_29, vzero_29, vbld_29, vpts_29, vsl_35, vkn_35, vvar_35, vzero_35, vvar_55, vzero_55, vfld_26_0, vfld_29_0, vfld_29_1, Int.toNat_zero, Int.reduceToNat]; try simp (disch := omega) only [wrap64]) | (with_reducible refine hK' _ ?_; clear hK' K') | (with_reducible refine hK _ ?_; clear hK K) | (with_reducible first | refine vcC_pure (in39_ac _ _ _ _) ?_ | refine vCall_pure (in39_ac _ _ _ _) ?_ | refine And.intro (And.intro rfl rfl) ?_ | refine And.intro (by omega) ?_) | (with_reducible refine And.intro (fun hg => ?_) (fun hg => ?_) <;> first | simp only [eq_false hg, rsB] | simp only [eq_true hg, rsB] | simp only [hg, rsB]) | (with_reducible first | refine And.intro rfl (And.intro rfl rfl) | refine thenQ_n ?_ | refine thenQ_exit ?_ | refine thenQ_ret ?_ | refine midQ_ret ?_ | refine midQ_exit ?_ | refine blockQ_same ?_ | refine blockQ_ne (by decide) ?_ | refine blockQ_ret ?_ | refine blockQ_n ?_ | refine AW.exit ?_ | refine AW.block ?_ | refine AW.cond_t rfl ?_ | refine AW.cond_f rfl ?_ | refine AW.cond_dec rfl (fun hc => ?_) (fun hc => ?_)) | (with_reducible refine AW.cond rfl (fun hc => ?_) (fun hc => ?_) <;> try simp only [Bool.not_eq_eq_eq_not, Bool.not_true, Bool.not_false, decide_eq_true_eq, decide_eq_false_iff_not] at hc) | (with_reducible first | refine AW.seq ?_ | refine AW.skip ?_ | refine AW.ret ?_ | refine And.intro ?_ ?_) | (with_reducible intro hg; first | simp only [eq_false hg, rsB] | simp only [eq_true hg, rsB]) | (with_reducible refine retQ_drop ?_; simp only [vRes, packRes, vLoad, vPart, lk, cond, Nat.reduceBEq, get_loc, getD_zero, getD_succ, true_and, List.length_cons, List.length_nil, Nat.reduceAdd, Nat.reduceLT, Nat.reduceLeDiff, List.take_succ_cons, List.take_zero, List.drop_succ_cons, List.drop_zero, vvar_2, vzero_2, vknd_2, vsn_2, vvar_3, vzero_3, vknd_3, vsn_3, vvar_4, vzero_4, vknd_4, vsn_4, vsl_24, vkn_24, vvar_24, vzero_24, vvar_26, vzero_26, vbld_26, vvar_29, vzero_29, vbld_29, vpts_29, vsl_35, vkn_35, vvar_35, vzero_35, vvar_55, vzero_55, vfld_26_0, vfld_29_0, vfld_29_1]) )
  all_goals refine ⟨_, _, FinOk.drop hB (Pl.ids (by (repeat' (first | exact Pl.v _ | exact Pl.junk | exact Pl.rd rfl _ | exact pl_nil | refine pl_cons ?_ ?_ | refine Pl.agg ?_ | refine Pl.tup ?_ | refine Pl.rp ?_ | refine Pl.fn ?_)); (first | done | fail))), ?_, rfl⟩
  all_goals refine v_bool ?_
  all_goals first
    | (simp only [Bool.false_eq_true, false_iff]
       intro h
       exact absurd h.1 (by assumption))
    | (simp only [decide_eq_true_eq]
       exact ⟨fun h => ⟨by assumption, h⟩, fun h => h.2⟩)
theorem price49_ac (m : Mz) (p : Pt) (hm : MzOk m) (hp : InMz m p) (H : List ABox) : AC Try.prog 31 [.rp [.rd (.sli .i64) (m)] 0, .agg [.v (.int .i64 (p).1), .v (.int .i64 (p).2)]] H (fun r H' => r = .v (.int .i64 (cell m p)) ∧ H' = H) := by
  obtain ⟨g1, g2, g3, g4⟩ := hm.cell hp
  obtain ⟨⟨p1, p2⟩, p3, p4⟩ := hp
  refine AC.enter envOk Try.func31 rfl (by decide) Try.ntmps31 Try.results31 (by simp) fun hB => ?_
  repeat' (first | (with_reducible first | refine AW.sreg envOk fun K hK => ?_ | refine AW.region envOk fun K hK => ?_) | (with_reducible refine AW.d0reg envOk mixed ?_ ?_ fun K hK => ?_; (first | rfl | exact base_len | exact base_len0); kernel_rfl) | (with_reducible refine AW.d0 envOk mixed ?_ ?_ fun K hK => ?_; (first | rfl | exact base_len | exact base_len0); kernel_rfl) | (with_reducible first | refine vcD_nil ?_ | refine vcL_nil ?_) | (with_reducible (first | refine vcD_cons fun K' hK' => ?_ | refine vcL_cons fun K' hK' => ?_); simp only [isC, Bool.false_or, Bool.or_true, ↓reduceDIte, List.take_length, Nat.le_refl, List.drop_zero, vGuard, undef, Bool.not_eq_eq_eq_not, dstOk, vcOp, vcF, isPure, putS, vcCall, St.ev, St.put, lk, AVal.ofVal, initS, Nat.reduceLT, true_and, and_true, vPart, vLoad, vIdxA, vFldA, vNil, vBox, partsA, fillA, decAll, AVal.flat, AVal.cell, cellsOk, setRange, ETy.enc, ETy.dec, ETy.sz, ETy.d, cond, Nat.reduceBEq, Nat.reduceAdd, Int.toNat_natCast, List.length_set, List.length_append, List.length_replicate, List.length_take, Nat.reduceSub, Nat.reduceEqDiff, get_loc, setBox_loc, next_eq, List.length_cons, List.length_nil, List.map_cons, List.map_nil, List.append_nil, List.nil_append, List.cons_append, List.set_cons_zero, List.set_cons_succ, getD_zero, getD_succ, List.getElem?_cons_succ, List.getElem?_cons_zero, List.take_succ_cons, List.take_zero, List.drop_succ_cons, List.all_cons, List.all_nil, Bool.and_true, Bool.true_and, Option.bind_some, Option.map_some, Option.map_none, decide_eq_true_eq, decide_eq_false_iff_not, ne_eq, Bool.not_eq_true, Bool.not_eq_false, Decidable.not_not, not_true_eq_false, not_false_eq_true, forall_const, false_implies, Bool.true_eq_false, Bool.false_eq_true, reduceCtorEq, decide_true, decide_false, Bool.not_true, Bool.not_false, if_true, if_false, Nat.zero_add, Nat.lt_irrefl, Value.oneCell', gt_iff_lt, Nat.reduceLeDiff, Nat.lt_add_one, vvar_2, vzero_2, vknd_2, vsn_2, vsl_24, vkn_24, vvar_24, vzero_24, vvar_26, vzero_26, vbld_26, vvar_29, vzero_29, vbld_29, vpts_29, vsl_35, vkn_35, vvar_35, vzero_35, vvar_55, vzero_55, vfld_26_0, vfld_29_0, vfld_29_1]; try simp (disch := omega) only [wrap64]) | (with_reducible refine hK' _ ?_; clear hK' K') | (with_reducible refine hK _ ?_; clear hK K) | (with_reducible first | refine And.intro (And.intro rfl rfl) ?_ | refine And.intro (by omega) ?_) | (with_reducible refine And.intro (fun hg => ?_) (fun hg => ?_) <;> first | simp only [eq_false hg, rsB] | simp only [eq_true hg, rsB] | simp only [hg, rsB]) | (with_reducible first | refine And.intro rfl (And.intro rfl rfl) | refine thenQ_n ?_ | refine thenQ_exit ?_ | refine thenQ_ret ?_ | refine midQ_ret ?_ | refine midQ_exit ?_ | refine blockQ_same ?_ | refine blockQ_ne (by decide) ?_ | refine blockQ_ret ?_ | refine blockQ_n ?_ | refine AW.exit ?_ | refine AW.block ?_ | refine AW.cond_t rfl ?_ | refine AW.cond_f rfl ?_ | refine AW.cond_dec rfl (fun hc => ?_) (fun hc => ?_)) | (with_reducible refine AW.cond rfl (fun hc => ?_) (fun hc => ?_) <;> try simp only [Bool.not_eq_eq_eq_not, Bool.not_true, Bool.not_false, decide_eq_true_eq, decide_eq_false_iff_not] at hc) | (with_reducible first | refine AW.seq ?_ | refine AW.skip ?_ | refine AW.ret ?_ | refine And.intro ?_ ?_) | (with_reducible intro hg; first | simp only [eq_false hg, rsB] | simp only [eq_true hg, rsB]) | (with_reducible refine retQ_drop ?_; simp only [vRes, packRes, vLoad, vPart, lk, cond, Nat.reduceBEq, get_loc, getD_zero, getD_succ, true_and, List.length_cons, List.length_nil, Nat.reduceAdd, Nat.reduceLT, Nat.reduceLeDiff, List.take_succ_cons, List.take_zero, List.drop_succ_cons, List.drop_zero, vvar_2, vzero_2, vknd_2, vsn_2, vsl_24, vkn_24, vvar_24, vzero_24, vvar_26, vzero_26, vbld_26, vvar_29, vzero_29, vbld_29, vpts_29, vsl_35, vkn_35, vvar_35, vzero_35, vvar_55, vzero_55, vfld_26_0, vfld_29_0, vfld_29_1]) )
  exact ⟨_, _, FinOk.drop hB (Pl.ids (by (repeat' (first | exact Pl.v _ | exact Pl.junk | exact Pl.rd rfl _ | exact pl_nil | refine pl_cons ?_ ?_ | refine Pl.agg ?_ | refine Pl.tup ?_ | refine Pl.rp ?_ | refine Pl.fn ?_)); (first | done | fail))), rfl, rfl⟩
theorem open44_ac (m : Mz) (p : Pt) (hm : MzOk m) (H : List ABox) : AC Try.prog 36 [.rp [.rd (.sli .i64) (m)] 0, .agg [.v (.int .i64 (p).1), .v (.int .i64 (p).2)]] H (fun r H' => r = .v (.bool (decide (OpenAt m p))) ∧ H' = H) := by
  have hc : InMz m p → 0 ≤ cell m p := fun h => (hm.cell h).2.2.2.1
  refine AC.enter envOk Try.func36 rfl (by decide) Try.ntmps36 Try.results36 (by simp) fun hB => ?_
  repeat' (first | (with_reducible first | refine AW.sreg envOk fun K hK => ?_ | refine AW.region envOk fun K hK => ?_ | refine vcL_nil ?_) | (with_reducible (first | refine vcL_cons fun K' hK' => ?_); simp only [isC, Bool.false_or, Bool.or_true, ↓reduceDIte, List.take_length, Nat.le_refl, List.drop_zero, vGuard, undef, Bool.not_eq_eq_eq_not, dstOk, vcOp, vcF, isPure, putS, vcCall, St.ev, St.put, lk, AVal.ofVal, initS, Nat.reduceLT, true_and, and_true, vBin, vPick, vPart, vLoad, vBox, partsA, fillA, decAll, AVal.flat, AVal.cell, cellsOk, setRange, ETy.enc, ETy.dec, ETy.sz, ETy.d, cond, Nat.reduceBEq, Nat.reduceAdd, Int.toNat_natCast, List.length_set, List.length_append, List.length_replicate, List.length_take, Nat.reduceSub, Nat.reduceEqDiff, get_loc, setBox_loc, next_eq, List.length_cons, List.length_nil, List.map_cons, List.map_nil, List.append_nil, List.nil_append, List.cons_append, List.set_cons_zero, List.set_cons_succ, getD_zero, getD_succ, List.getElem?_cons_succ, List.getElem?_cons_zero, List.take_succ_cons, List.take_zero, List.drop_succ_cons, List.all_cons, List.all_nil, Bool.and_true, Bool.true_and, Option.bind_some, Option.map_some, Option.map_none, decide_eq_true_eq, decide_eq_false_iff_not, ne_eq, Bool.not_eq_true, Bool.not_eq_false, Decidable.not_not, not_true_eq_false, not_false_eq_true, forall_const, false_implies, Bool.true_eq_false, Bool.false_eq_true, reduceCtorEq, decide_true, decide_false, Bool.not_true, Bool.not_false, if_true, if_false, Nat.zero_add, Nat.lt_irrefl, Value.oneCell', gt_iff_lt, Nat.reduceLeDiff, Nat.lt_add_one, vvar_2, vzero_2, vknd_2, vsn_2, vvar_4, vzero_4, vknd_4, vsn_4, vvar_29, vzero_29, vbld_29, vpts_29, vvar_55, vzero_55]; try simp (disch := omega) only [wrap64]) | (with_reducible refine hK' _ ?_; clear hK' K') | (with_reducible refine hK _ ?_; clear hK K) | (with_reducible first | refine vCall_pure (has59_ac m p hm _) ?_ | refine vCall_pure (price49_ac m p hm (by assumption) _) ?_ | refine And.intro (And.intro rfl rfl) ?_ | refine And.intro (by omega) ?_) | (with_reducible refine And.intro (fun hg => ?_) (fun hg => ?_) <;> first | simp only [eq_false hg, rsB] | simp only [eq_true hg, rsB] | simp only [hg, rsB]) | (with_reducible first | refine And.intro rfl (And.intro rfl rfl) | refine thenQ_n ?_ | refine thenQ_exit ?_ | refine thenQ_ret ?_ | refine midQ_ret ?_ | refine midQ_exit ?_ | refine blockQ_same ?_ | refine blockQ_ne (by decide) ?_ | refine blockQ_ret ?_ | refine blockQ_n ?_ | refine AW.exit ?_ | refine AW.block ?_ | refine AW.cond_t rfl ?_ | refine AW.cond_f rfl ?_ | refine AW.cond_dec rfl (fun hc => ?_) (fun hc => ?_)) | (with_reducible refine AW.cond rfl (fun hc => ?_) (fun hc => ?_) <;> try simp only [Bool.not_eq_eq_eq_not, Bool.not_true, Bool.not_false, decide_eq_true_eq, decide_eq_false_iff_not] at hc) | (with_reducible first | refine AW.seq ?_ | refine AW.skip ?_ | refine AW.ret ?_ | refine And.intro ?_ ?_) | (with_reducible intro hg; first | simp only [eq_false hg, rsB] | simp only [eq_true hg, rsB]) | (with_reducible refine retQ_drop ?_; simp only [vRes, packRes, vLoad, vPart, lk, cond, Nat.reduceBEq, get_loc, getD_zero, getD_succ, true_and, List.length_cons, List.length_nil, Nat.reduceAdd, Nat.reduceLT, Nat.reduceLeDiff, List.take_succ_cons, List.take_zero, List.drop_succ_cons, List.drop_zero, vvar_2, vzero_2, vknd_2, vsn_2, vvar_4, vzero_4, vknd_4, vsn_4, vvar_29, vzero_29, vbld_29, vpts_29, vvar_55, vzero_55]) )
  all_goals refine ⟨_, _, FinOk.drop hB (Pl.ids (by (repeat' (first | exact Pl.v _ | exact Pl.junk | exact Pl.rd rfl _ | exact pl_nil | refine pl_cons ?_ ?_ | refine Pl.agg ?_ | refine Pl.tup ?_ | refine Pl.rp ?_ | refine Pl.fn ?_)); (first | done | fail))), ?_, rfl⟩
  all_goals refine v_bool ?_
  · have h1 := hc (by assumption)
    simp only [decide_eq_true_eq]
    exact ⟨fun h => ⟨by assumption, by omega⟩, fun h => by have := h.2; omega⟩
  · simp only [Bool.false_eq_true, false_iff]
    exact fun h => absurd h.1 (by assumption)
theorem impl18_ac (m : Mz) (p : Pt) (hm : Fits 1048576 m) (H : List ABox) : AC Try.prog 18 [.agg [.rd (.sli .i64) (m)], .agg [.v (.int .i64 (p).1), .v (.int .i64 (p).2)]] H (fun r H' => r = .v (.bool (decide (MzOk m ∧ OpenAt m p))) ∧ H' = H) := by
  refine AC.enter envOk Try.func18 rfl (by decide) Try.ntmps18 Try.results18 (by simp) fun hB => ?_
  repeat' (first | (with_reducible first | refine AW.sreg envOk fun K hK => ?_ | refine AW.region envOk fun K hK => ?_ | refine vcL_nil ?_) | (with_reducible (first | refine vcL_cons fun K' hK' => ?_); simp only [isC, Bool.false_or, Bool.or_true, ↓reduceDIte, List.take_length, Nat.le_refl, List.drop_zero, vGuard, undef, Bool.not_eq_eq_eq_not, dstOk, vcOp, vcF, isPure, putS, vcCall, St.ev, St.put, lk, AVal.ofVal, initS, Nat.reduceLT, true_and, and_true, vPick, vPart, vLoad, vBox, partsA, fillA, decAll, AVal.flat, AVal.cell, cellsOk, setRange, ETy.enc, ETy.dec, ETy.sz, ETy.d, cond, Nat.reduceBEq, Nat.reduceAdd, Int.toNat_natCast, List.length_set, List.length_append, List.length_replicate, List.length_take, Nat.reduceSub, Nat.reduceEqDiff, get_loc, setBox_loc, next_eq, List.length_cons, List.length_nil, List.map_cons, List.map_nil, List.append_nil, List.nil_append, List.cons_append, List.set_cons_zero, List.set_cons_succ, getD_zero, getD_succ, List.getElem?_cons_succ, List.getElem?_cons_zero, List.take_succ_cons, List.take_zero, List.drop_succ_cons, List.all_cons, List.all_nil, Bool.and_true, Bool.true_and, Option.bind_some, Option.map_some, Option.map_none, decide_eq_true_eq, decide_eq_false_iff_not, ne_eq, Bool.not_eq_true, Bool.not_eq_false, Decidable.not_not, not_true_eq_false, not_false_eq_true, forall_const, false_implies, Bool.true_eq_false, Bool.false_eq_true, reduceCtorEq, decide_true, decide_false, Bool.not_true, Bool.not_false, if_true, if_false, Nat.zero_add, Nat.lt_irrefl, Value.oneCell', gt_iff_lt, Nat.reduceLeDiff, Nat.lt_add_one, vvar_4, vzero_4, vknd_4, vsn_4, vvar_26, vzero_26, vbld_26, vvar_29, vzero_29, vbld_29, vpts_29]; try simp (disch := omega) only [wrap64]) | (with_reducible refine hK' _ ?_; clear hK' K') | (with_reducible refine hK _ ?_; clear hK K) | (with_reducible refine vCall_pure (is14_ac m hm _) ?_) | ((with_reducible show vCall _ (AVal.fn 36 _) _ _ _); refine vCall_pure (AC.lent0 (by (repeat' (first | exact trivial | exact LentV.rowL rfl rfl rfl | exact LentV.rowL rfl rfl (by assumption) | refine LentV.boxL rfl ?_ | exact LentV.nil _ | exact LentV.same _ | refine LentV.aggL ?_ | refine And.intro ?_ ?_)); (first | done | fail)) (by (repeat' (first | exact NoRd.v _ | exact NoRd.sl | exact NoRd.mp | exact NoRd.tup nord_nil | refine NoRd.tup ?_ | refine NoRd.agg ?_ | exact nord_nil | refine nord_cons ?_ ?_)); (first | done | fail)) (open44_ac m p (by assumption) _)) ?_) | (with_reducible first | refine And.intro (And.intro rfl rfl) ?_ | refine And.intro (by omega) ?_) | (with_reducible refine And.intro (fun hg => ?_) (fun hg => ?_) <;> first | simp only [eq_false hg, rsB] | simp only [eq_true hg, rsB] | simp only [hg, rsB]) | (with_reducible first | refine And.intro rfl (And.intro rfl rfl) | refine thenQ_n ?_ | refine thenQ_exit ?_ | refine thenQ_ret ?_ | refine midQ_ret ?_ | refine midQ_exit ?_ | refine blockQ_same ?_ | refine blockQ_ne (by decide) ?_ | refine blockQ_ret ?_ | refine blockQ_n ?_ | refine AW.exit ?_ | refine AW.block ?_ | refine AW.cond_t rfl ?_ | refine AW.cond_f rfl ?_ | refine AW.cond_dec rfl (fun hc => ?_) (fun hc => ?_)) | (with_reducible refine AW.cond rfl (fun hc => ?_) (fun hc => ?_) <;> try simp only [Bool.not_eq_eq_eq_not, Bool.not_true, Bool.not_false, decide_eq_true_eq, decide_eq_false_iff_not] at hc) | (with_reducible first | refine AW.seq ?_ | refine AW.skip ?_ | refine AW.ret ?_ | refine And.intro ?_ ?_) | (with_reducible intro hg; first | simp only [eq_false hg, rsB] | simp only [eq_true hg, rsB]) | (with_reducible refine retQ_drop ?_; simp only [vRes, packRes, vLoad, vPart, lk, cond, Nat.reduceBEq, get_loc, getD_zero, getD_succ, true_and, List.length_cons, List.length_nil, Nat.reduceAdd, Nat.reduceLT, Nat.reduceLeDiff, List.take_succ_cons, List.take_zero, List.drop_succ_cons, List.drop_zero, vvar_4, vzero_4, vknd_4, vsn_4, vvar_26, vzero_26, vbld_26, vvar_29, vzero_29, vbld_29, vpts_29]) )
  all_goals refine ⟨_, _, FinOk.drop hB (Pl.ids (by (repeat' (first | exact Pl.v _ | exact Pl.junk | exact Pl.rd rfl _ | exact pl_nil | refine pl_cons ?_ ?_ | refine Pl.agg ?_ | refine Pl.tup ?_ | refine Pl.rp ?_ | refine Pl.fn ?_)); (first | done | fail))), ?_, rfl⟩
  all_goals refine v_bool ?_
  all_goals simp [*]
theorem step58_ac (p : Pt) (k : Int) (h1 : -1000000000 ≤ p.1 ∧ p.1 ≤ 1000000000) (h2 : -1000000000 ≤ p.2 ∧ p.2 ≤ 1000000000) (H : List ABox) : AC Try.prog 42 [.agg [.v (.int .i64 (p).1), .v (.int .i64 (p).2)], .v (.int .i64 (k))] H (fun r H' => r = .agg [.v (.int .i64 (stepTo p k).1), .v (.int .i64 (stepTo p k).2)] ∧ H' = H) := by
  refine AC.enter envOk Try.func42 rfl (by decide) Try.ntmps42 Try.results42 (by simp) fun hB => ?_
  repeat' (first | (with_reducible first | refine AW.sreg envOk fun K hK => ?_ | refine AW.region envOk fun K hK => ?_ | refine vcL_nil ?_) | (with_reducible (first | refine vcL_cons fun K' hK' => ?_); simp only [isC, Bool.false_or, Bool.or_true, ↓reduceDIte, List.take_length, Nat.le_refl, List.drop_zero, vGuard, undef, Bool.not_eq_eq_eq_not, dstOk, vcOp, vcF, isPure, putS, vcCall, St.ev, St.put, lk, AVal.ofVal, initS, Nat.reduceLT, true_and, and_true, vBin, vPart, vLoad, vStore, vFldA, vAlloc, vBox, vBuild, partsA, fillA, decAll, AVal.flat, AVal.cell, cellsOk, setRange, ETy.enc, ETy.dec, ETy.sz, ETy.d, cond, Nat.reduceBEq, Nat.reduceAdd, Int.toNat_natCast, List.length_set, List.length_append, List.length_replicate, List.length_take, Nat.reduceSub, Nat.reduceEqDiff, get_loc, setBox_loc, next_eq, List.length_cons, List.length_nil, List.map_cons, List.map_nil, List.append_nil, List.nil_append, List.cons_append, List.set_cons_zero, List.set_cons_succ, getD_zero, getD_succ, List.getElem?_cons_succ, List.getElem?_cons_zero, List.take_succ_cons, List.take_zero, List.drop_succ_cons, List.all_cons, List.all_nil, Bool.and_true, Bool.true_and, Option.bind_some, Option.map_some, Option.map_none, decide_eq_true_eq, decide_eq_false_iff_not, ne_eq, Bool.not_eq_true, Bool.not_eq_false, Decidable.not_not, not_true_eq_false, not_false_eq_true, forall_const, false_implies, Bool.true_eq_false, Bool.false_eq_true, reduceCtorEq, decide_true, decide_false, Bool.not_true, Bool.not_false, if_true, if_false, Nat.zero_add, Nat.lt_irrefl, Value.oneCell', gt_iff_lt, Nat.reduceLeDiff, Nat.lt_add_one, vvar_2, vzero_2, vknd_2, vsn_2, vvar_3, vzero_3, vknd_3, vsn_3, vvar_4, vzero_4, vknd_4, vsn_4, vvar_29, vzero_29, vbld_29, vpts_29, vfld_29_0, vfld_29_1]; try simp (disch := omega) only [wrap64]) | (with_reducible refine hK' _ ?_; clear hK' K') | (with_reducible refine hK _ ?_; clear hK K) | (with_reducible first | refine And.intro (And.intro rfl rfl) ?_ | refine And.intro (by omega) ?_) | (with_reducible refine And.intro (fun hg => ?_) (fun hg => ?_) <;> first | simp only [eq_false hg, rsB] | simp only [eq_true hg, rsB] | simp only [hg, rsB]) | (with_reducible first | refine And.intro rfl (And.intro rfl rfl) | refine thenQ_n ?_ | refine thenQ_exit ?_ | refine thenQ_ret ?_ | refine midQ_ret ?_ | refine midQ_exit ?_ | refine blockQ_same ?_ | refine blockQ_ne (by decide) ?_ | refine blockQ_ret ?_ | refine blockQ_n ?_ | refine AW.exit ?_ | refine AW.block ?_ | refine AW.cond_t rfl ?_ | refine AW.cond_f rfl ?_ | refine AW.cond_dec rfl (fun hc => ?_) (fun hc => ?_)) | (with_reducible refine AW.cond rfl (fun hc => ?_) (fun hc => ?_) <;> try simp only [Bool.not_eq_eq_eq_not, Bool.not_true, Bool.not_false, decide_eq_true_eq, decide_eq_false_iff_not] at hc) | (with_reducible first | refine AW.seq ?_ | refine AW.skip ?_ | refine AW.ret ?_ | refine And.intro ?_ ?_) | (with_reducible intro hg; first | simp only [eq_false hg, rsB] | simp only [eq_true hg, rsB]) | (with_reducible refine retQ_drop ?_; simp only [vRes, packRes, vLoad, vPart, lk, cond, Nat.reduceBEq, get_loc, getD_zero, getD_succ, true_and, List.length_cons, List.length_nil, Nat.reduceAdd, Nat.reduceLT, Nat.reduceLeDiff, List.take_succ_cons, List.take_zero, List.drop_succ_cons, List.drop_zero, vvar_2, vzero_2, vknd_2, vsn_2, vvar_3, vzero_3, vknd_3, vsn_3, vvar_4, vzero_4, vknd_4, vsn_4, vvar_29, vzero_29, vbld_29, vpts_29, vfld_29_0, vfld_29_1]) )
  all_goals refine ⟨_, _, FinOk.drop hB (Pl.ids (by (repeat' (first | exact Pl.v _ | exact Pl.junk | exact Pl.rd rfl _ | exact pl_nil | refine pl_cons ?_ ?_ | refine Pl.agg ?_ | refine Pl.tup ?_ | refine Pl.rp ?_ | refine Pl.fn ?_)); (first | done | fail))), ?_, rfl⟩
  all_goals simp [stepTo, *]
end Go.Proofs.Ytlfhhgfhoddgpaa
end
section
set_option linter.unusedSimpArgs false
set_option linter.unusedVariables false
set_option maxHeartbeats 2000000
namespace Go.Proofs.Ytlfhhgfhoddgpaa
open Go.Eng
/-- A search stands here: the keys, the list, and where its rest begins. -/
structure RcOk (m : Mz) (f : Pt) (z : List Pt × List Pt × Nat × Nat) : Prop where
  rch : Rch m f (fun q => q ∈ z.1) (z.2.1.drop z.2.2.1)
  nd : z.1.Nodup
  mm : z.2.2.1 + z.2.2.2 = z.2.1.length
  lim : 2 * (144 - z.1.length) + z.2.2.2 ≤ 289
  all : z.2.1.length ≤ 300
structure RcIn (m : Mz) (f t : Pt) (M : Nat) (z : List Pt × List Pt × Nat × Nat) (i : Nat) : Prop extends RcOk m f z where
  pos : 0 < z.2.2.2
  hd : z.2.1.getD z.2.2.1 (0, 0) = t
  seen : ∀ k : Nat, k < i → OpenAt m (stepTo t (k : Int)) → stepTo t (k : Int) ∈ z.1
  mu : 2 * (144 - z.1.length) + z.2.2.2 ≤ M
theorem OpenAt.bnd {m : Mz} (hm : MzOk m) {p : Pt} (h : OpenAt m p) : (0 ≤ p.1 ∧ p.1 ≤ 11) ∧ 0 ≤ p.2 ∧ p.2 ≤ 11 := mem_allPts.1 (h.1.all hm)
end Go.Proofs.Ytlfhhgfhoddgpaa
end
section
set_option linter.unusedSimpArgs false
set_option linter.unusedVariables false
set_option maxHeartbeats 2000000
namespace Go.Proofs.Ytlfhhgfhoddgpaa
open Go.Eng
/-- The number of a cell. -/
def ixP (m : Mz) (p : Pt) : Int := p.2 * (width m : Int) + p.1
theorem ixP_bnd {m : Mz} {p : Pt} (h : InMz m p) : 0 ≤ ixP m p ∧ (ixP m p).toNat < m.length * width m := by
  obtain ⟨⟨a, b⟩, c, d⟩ := h
  unfold ixP
  have h1 : 0 ≤ p.2 * (width m : Int) := Int.mul_nonneg a (by omega)
  refine ⟨by omega, ?_⟩
  have h2 : p.2 * (width m : Int) ≤ ((m.length : Int) - 1) * (width m : Int) := Int.mul_le_mul_of_nonneg_right b (by omega)
  have h3 : ((m.length : Int) - 1) * (width m : Int) = (m.length : Int) * width m - width m := by rw [Int.sub_mul, Int.one_mul]
  have h4 : ((m.length * width m : Nat) : Int) = (m.length : Int) * width m := by simp
  omega
theorem ixP_inj {m : Mz} {p q : Pt} (hp : InMz m p) (hq : InMz m q) (h : ixP m p = ixP m q) : p = q := by
  obtain ⟨⟨a, b⟩, c, d⟩ := hp
  obtain ⟨⟨a', b'⟩, c', d'⟩ := hq
  unfold ixP at h
  have hw : 0 < (width m : Int) := by omega
  have e1 : (p.2 * (width m : Int) + p.1) / (width m : Int) = p.2 := by
    rw [Int.add_comm, Int.add_mul_ediv_right _ _ (by omega), Int.ediv_eq_zero_of_lt c (by omega), Int.zero_add]
  have e2 : (q.2 * (width m : Int) + q.1) / (width m : Int) = q.2 := by
    rw [Int.add_comm, Int.add_mul_ediv_right _ _ (by omega), Int.ediv_eq_zero_of_lt c' (by omega), Int.zero_add]
  have e3 : p.2 = q.2 := by rw [← e1, ← e2, h]
  have e4 : p.1 = q.1 := by rw [e3] at h; omega
  exact Prod.ext e4 e3
/-- Marked in a list of cells. -/
def Mk (m : Mz) (bs : List Bool) (q : Pt) : Prop := InMz m q ∧ bs.getD (ixP m q).toNat false = true
theorem Mk.set {m : Mz} {bs : List Bool} {p : Pt} (hl : bs.length = m.length * width m) (hp : InMz m p) (q : Pt) : Mk m (bs.set (ixP m p).toNat true) q ↔ Mk m bs q ∨ q = p := by
  have hb := ixP_bnd hp
  constructor
  · rintro ⟨h1, h2⟩
    by_cases e : q = p
    · exact .inr e
    · refine .inl ⟨h1, ?_⟩
      have hne : (ixP m p).toNat ≠ (ixP m q).toNat := fun h => e (ixP_inj h1 hp (by have := (ixP_bnd h1).1; omega))
      simp only [List.getD] at h2 ⊢
      rwa [List.getElem?_set_ne hne] at h2
  · rintro (⟨h1, h2⟩ | rfl)
    · refine ⟨h1, ?_⟩
      by_cases e : (ixP m p).toNat = (ixP m q).toNat
      · simp only [List.getD]; rw [e, List.getElem?_set_self (by omega)]; rfl
      · simp only [List.getD] at h2 ⊢; rwa [List.getElem?_set_ne e]
    · refine ⟨hp, ?_⟩
      simp only [List.getD]; rw [List.getElem?_set_self (by omega)]; rfl
theorem Mk.none {m : Mz} {n : Nat} {q : Pt} : ¬ Mk m (List.replicate n false) q := by
  rintro ⟨_, h⟩
  simp only [List.getD, List.getElem?_replicate] at h
  split at h <;> simp at h
theorem wid_pos {m : Mz} (hm : MzOk m) : (1 ≤ m.length ∧ m.length ≤ 12) ∧ 1 ≤ width m ∧ width m ≤ 12 := ⟨hm.1, hm.2.1⟩
/-- A search of the reference stands here: the marks, the list, and the place in it. -/
structure RsOk (m : Mz) (f : Pt) (z : List Bool × List Pt × Nat) : Prop where
  rch : Rch m f (fun q => Mk m z.1 q) (z.2.1.drop z.2.2)
  len : z.1.length = m.length * width m
  nd : z.2.1.Nodup
  sub : ∀ q ∈ z.2.1, Mk m z.1 q
  le : z.2.2 ≤ z.2.1.length
structure RsIn (m : Mz) (f t : Pt) (z : List Bool × List Pt × Nat) (i : Nat) : Prop extends RsOk m f z where
  pos : z.2.2 < z.2.1.length
  hd : z.2.1.getD z.2.2 (0, 0) = t
  seen : ∀ k : Nat, k < i → OpenAt m (stepTo t (k : Int)) → Mk m z.1 (stepTo t (k : Int))
end Go.Proofs.Ytlfhhgfhoddgpaa
end
section
set_option linter.unusedSimpArgs false
set_option linter.unusedVariables false
namespace Go.Proofs.Ytlfhhgfhoddgpaa
open Go.Eng
/-! ### Sums over lists -/
def wgt (B : Nat) (x : Int) : Nat := if x < 0 then B else x.toNat
def wsum (B : Nat) (L : List Int) : Nat := (L.map (wgt B)).sum
def cntP (L : List Int) : Nat := (L.filter fun x => decide (0 ≤ x)).length
theorem sum_set {f : Int → Nat} : ∀ {L : List Int} {i : Nat} {v : Int}, i < L.length → ((L.set i v).map f).sum + f (L.getD i 0) = (L.map f).sum + f v
  | x :: r, 0, v, h => by simp [List.getD]; omega
  | x :: r, i + 1, v, h => by
    have ih := sum_set (f := f) (L := r) (i := i) (v := v) (by simpa using h)
    have e : (x :: r).getD (i + 1) 0 = r.getD i 0 := rfl
    rw [e]
    simp only [List.set_cons_succ, List.map_cons, List.sum_cons]
    omega
theorem wsum_set {B : Nat} {L : List Int} {i : Nat} {v : Int} (h : i < L.length) (hlt : wgt B v < wgt B (L.getD i 0)) : wsum B (L.set i v) < wsum B L := by
  have := sum_set (f := wgt B) (v := v) h
  unfold wsum; omega
theorem cntP_set {L : List Int} {i : Nat} {v : Int} (h : i < L.length) (hv : 0 ≤ v) : cntP (L.set i v) = if L.getD i 0 < 0 then cntP L + 1 else cntP L := by
  induction L generalizing i with
  | nil => simp at h
  | cons x r ih =>
    cases i with
    | zero =>
      show cntP (v :: r) = if x < 0 then _ else _
      unfold cntP
      by_cases hx : x < 0
      · rw [if_pos hx]; simp [List.filter_cons, hv, show ¬ 0 ≤ x by omega]
      · rw [if_neg hx]; simp [List.filter_cons, hv, show 0 ≤ x by omega]
    | succ i =>
      have ih := ih (i := i) (by simpa using h)
      have e : (x :: r).getD (i + 1) 0 = r.getD i 0 := rfl
      rw [e]
      show cntP (x :: r.set i v) = _
      have e2 : ∀ l : List Int, cntP (x :: l) = (if 0 ≤ x then 1 else 0) + cntP l := fun l => by
        unfold cntP
        by_cases hx : 0 ≤ x
        · simp [List.filter_cons, hx]; omega
        · simp [List.filter_cons, hx]
      rw [e2, e2, ih]
      by_cases g : r.getD i 0 < 0
      · rw [if_pos g, if_pos g]; omega
      · rw [if_neg g, if_neg g]
theorem cntP_le (L : List Int) : cntP L ≤ L.length := List.length_filter_le _ _
/-! ### The numbers of states -/
def sx (m : Mz) (s : Stt) : Nat := (5 * ixP m s.1 + s.2).toNat
theorem ixP_bnd2 {m : Mz} {p : Pt} (h : InMz m p) : 0 ≤ ixP m p ∧ ixP m p < (m.length : Int) * width m := by
  obtain ⟨⟨a, b⟩, c, d⟩ := h
  unfold ixP
  have h1 : 0 ≤ p.2 * (width m : Int) := Int.mul_nonneg a (by omega)
  refine ⟨by omega, ?_⟩
  have h2 : p.2 * (width m : Int) ≤ ((m.length : Int) - 1) * (width m : Int) := Int.mul_le_mul_of_nonneg_right b (by omega)
  have h3 : ((m.length : Int) - 1) * (width m : Int) = (m.length : Int) * width m - width m := by rw [Int.sub_mul, Int.one_mul]
  omega
/-- In the maze, and a direction or none. -/
def SIn (m : Mz) (s : Stt) : Prop := InMz m s.1 ∧ 0 ≤ s.2 ∧ s.2 ≤ 4
theorem SOk.inn {m : Mz} {s : Stt} (h : SOk m s) : SIn m s := ⟨h.1.1, h.2⟩
theorem sx_eq {m : Mz} {s : Stt} (h : SIn m s) : ((sx m s : Nat) : Int) = 5 * ixP m s.1 + s.2 := by
  have := ixP_bnd2 h.1
  have := h.2
  unfold sx; omega
theorem sx_lt {m : Mz} {s : Stt} (h : SIn m s) : sx m s < 5 * (m.length * width m) := by
  have h1 := ixP_bnd2 h.1
  have h2 := h.2
  have h3 := sx_eq h
  have h4 : ((m.length * width m : Nat) : Int) = (m.length : Int) * width m := by simp
  omega
theorem sx_inj {m : Mz} {s t : Stt} (hs : SIn m s) (ht : SIn m t) (h : sx m s = sx m t) : s = t := by
  have h1 := sx_eq hs
  have h2 := sx_eq ht
  have h3 := hs.2
  have h4 := ht.2
  have e : ixP m s.1 = ixP m t.1 := by omega
  exact Prod.ext (ixP_inj hs.1 ht.1 e) (by omega)
/-- A list of costs: what it says of a state. -/
noncomputable def LT (m : Mz) (L : List Int) (s : Stt) : Option Int := open Classical in if SIn m s ∧ 0 ≤ L.getD (sx m s) 0 then some (L.getD (sx m s) 0) else none
/-- A list of costs in the midst of a search. -/
structure LOk (m : Mz) (to : Pt) (bend : Int) (L : List Int) : Prop where
  len : L.length = 5 * (m.length * width m)
  tab : TOk m to bend (LT m L)
  dom : ∀ s c, LT m L s = some c → SOk m s
  bnd : ∀ s c, LT m L s = some c → c ≤ (9 + bend) * (cntP L : Int)
theorem LT_some {m : Mz} {L : List Int} {s : Stt} {c : Int} : LT m L s = some c ↔ SIn m s ∧ 0 ≤ L.getD (sx m s) 0 ∧ L.getD (sx m s) 0 = c := by
  unfold LT
  split
  · rename_i h; simp only [Option.some.injEq]; exact ⟨fun e => ⟨h.1, h.2, e⟩, fun e => e.2.2⟩
  · rename_i h; exact ⟨fun e => absurd e (by simp), fun e => absurd ⟨e.1, e.2.1⟩ h⟩
theorem getD_setE {L : List Int} {i : Nat} {v : Int} (h : i < L.length) : (L.set i v).getD i 0 = v := by simp [List.getD, h]
theorem getD_setN {L : List Int} {i j : Nat} {v : Int} (h : i ≠ j) : (L.set i v).getD j 0 = L.getD j 0 := by
  simp only [List.getD]; rw [List.getElem?_set_ne h]
theorem LT_set {m : Mz} {L : List Int} (hl : L.length = 5 * (m.length * width m)) {s : Stt} (hs : SIn m s) {v : Int} (hv : 0 ≤ v) (t : Stt) : LT m (L.set (sx m s) v) t = @ite _ (t = s) (Classical.propDecidable _) (some v) (LT m L t) := by
  have hlt := sx_lt hs
  by_cases e : t = s
  · subst e
    rw [if_pos rfl]
    exact LT_some.2 ⟨hs, by rw [getD_setE (by omega)]; exact hv, getD_setE (by omega)⟩
  · rw [if_neg e]
    by_cases ht : SIn m t
    · have hne : sx m s ≠ sx m t := fun h => e (sx_inj ht hs h.symm)
      unfold LT
      rw [getD_setN hne]
    · unfold LT
      rw [if_neg (fun h => ht h.1), if_neg (fun h => ht h.1)]
/-- A cost is entered that a way has. -/
theorem LOk.put {m : Mz} {to : Pt} {bend : Int} {L : List Int} (hb : 0 ≤ bend) (hm : MzOk m) (h : LOk m to bend L) {s : Stt} (hs : SOk m s) (hn : s.1 ≠ to) {k : Nat} (hk : k < 4) (ho : OpenAt m (stepTo s.1 (k : Int))) {c : Int} (hc : LT m L (nextS s k) = some c)
    (hlow : L.getD (sx m s) 0 < 0 ∨ costS m bend s k + c < L.getD (sx m s) 0) : LOk m to bend (L.set (sx m s) (costS m bend s k + c)) := by
  have hc0 := (h.tab.real _ _ hc).nonneg hb
  have hcp := costS_pos hb ho
  have hcl := costS_le hm hb ho
  have hv : 0 ≤ costS m bend s k + c := by omega
  have hlt := sx_lt hs.inn
  have hset := LT_set h.len hs.inn hv
  have hcnt := cntP_set (L := L) (i := sx m s) (v := costS m bend s k + c) (by rw [h.len]; exact hlt) hv
  have hbc := h.bnd _ _ hc
  refine ⟨by rw [List.length_set]; exact h.len, ⟨fun t d ht => ?_, fun w h0 h4 => ?_⟩, fun t d ht => ?_, fun t d ht => ?_⟩
  · rw [hset] at ht
    split at ht
    · rename_i e; cases ht; subst e
      exact .step k hk ho (h.tab.real _ _ hc)
    · exact h.tab.real _ _ ht
  · rw [hset, if_neg (fun e => hn (by rw [← e]))]
    exact h.tab.goal w h0 h4
  · rw [hset] at ht
    split at ht
    · rename_i e; subst e; exact hs
    · exact h.dom _ _ ht
  · have hmono : (9 + bend) * (cntP L : Int) ≤ (9 + bend) * (cntP (L.set (sx m s) (costS m bend s k + c)) : Int) := by
      refine Int.mul_le_mul_of_nonneg_left ?_ (by omega)
      rw [hcnt]; split <;> omega
    rw [hset] at ht
    split at ht
    · cases ht
      by_cases hneg : L.getD (sx m s) 0 < 0
      · rw [hcnt, if_pos hneg]
        have : (9 + bend) * ((cntP L + 1 : Nat) : Int) = (9 + bend) * (cntP L : Int) + (9 + bend) := by rw [Int.natCast_add, Int.mul_add]; simp
        omega
      · have hls : LT m L s = some (L.getD (sx m s) 0) := LT_some.2 ⟨hs.inn, by omega, rfl⟩
        have := h.bnd _ _ hls
        omega
    · have := h.bnd _ _ ht
      omega
/-- And the sum is lowered. -/
theorem LOk.put_lt {m : Mz} {to : Pt} {bend : Int} {L : List Int} (hb : 0 ≤ bend) (hm : MzOk m) (h : LOk m to bend L) {s : Stt} (hs : SOk m s) {k : Nat} (ho : OpenAt m (stepTo s.1 (k : Int))) {c : Int} (hc : LT m L (nextS s k) = some c)
    (hlow : L.getD (sx m s) 0 < 0 ∨ costS m bend s k + c < L.getD (sx m s) 0) : wsum ((9 + bend) * 722).toNat (L.set (sx m s) (costS m bend s k + c)) < wsum ((9 + bend) * 722).toNat L := by
  have hc0 := (h.tab.real _ _ hc).nonneg hb
  have hcp := costS_pos hb ho
  have hcl := costS_le hm hb ho
  obtain ⟨⟨h1, h2⟩, ⟨h3, h4⟩, _⟩ := hm
  have hlt := sx_lt hs.inn
  have hN : m.length * width m ≤ 12 * 12 := Nat.mul_le_mul h2 h4
  have hcn := cntP_le L
  have hbc := h.bnd _ _ hc
  have hbig : (9 + bend) * (cntP L : Int) ≤ (9 + bend) * 720 := Int.mul_le_mul_of_nonneg_left (by rw [h.len] at hcn; omega) (by omega)
  have e722 : (9 + bend) * 722 = (9 + bend) * 720 + 2 * (9 + bend) := by omega
  refine wsum_set (by rw [h.len]; exact hlt) ?_
  unfold wgt
  rw [if_neg (by omega)]
  split
  · omega
  · rcases hlow with g | g
    · omega
    · omega
end Go.Proofs.Ytlfhhgfhoddgpaa
end
section
set_option linter.unusedSimpArgs false
set_option linter.unusedVariables false
namespace Go.Proofs.Ytlfhhgfhoddgpaa
open Go.Eng
/-- A map of costs. -/
def entS (ps : List (Stt × Int)) : List (Stt × Value) := ps.map fun x => (x.1, .int .i64 x.2)
def MT : List (Stt × Int) → Stt → Option Int
  | [], _ => none
  | x :: r, s => if s = x.1 then some x.2 else MT r s
def setM : List (Stt × Int) → Stt → Int → List (Stt × Int)
  | [], s, v => [(s, v)]
  | x :: r, s, v => if s = x.1 then (x.1, v) :: r else x :: setM r s v
def sumM (ps : List (Stt × Int)) : Nat := (ps.map fun x => x.2.toNat).sum
theorem lookS (s : Stt) : ∀ (ps : List (Stt × Int)) (j : Nat), (lookK .st s (entS ps) j).map (·.2) = (MT ps s).map (Value.int .i64 ·)
  | [], j => rfl
  | x :: r, j => by
    show (if s = x.1 then some (j, Value.int .i64 x.2) else lookK .st s (entS r) (j + 1)).map (·.2) = (if s = x.1 then some x.2 else MT r s).map _
    by_cases e : s = x.1
    · rw [if_pos e, if_pos e]; rfl
    · rw [if_neg e, if_neg e]; exact lookS s r (j + 1)
theorem getS (s : Stt) (ps : List (Stt × Int)) : getK .st s (entS ps) = (MT ps s).map (Value.int .i64 ·) := lookS s ps 0
theorem putS_ent (s : Stt) (v : Int) : ∀ ps : List (Stt × Int), putK .st s (.int .i64 v) (entS ps) = entS (setM ps s v)
  | [] => rfl
  | x :: r => by
    show (if s = x.1 then (x.1, Value.int .i64 v) :: entS r else (x.1, Value.int .i64 x.2) :: putK .st s (.int .i64 v) (entS r)) = entS (if s = x.1 then (x.1, v) :: r else x :: setM r s v)
    by_cases e : s = x.1
    · rw [if_pos e, if_pos e]; rfl
    · rw [if_neg e, if_neg e, putS_ent s v r]; rfl
theorem MT_set (s : Stt) (v : Int) (t : Stt) : ∀ ps : List (Stt × Int), MT (setM ps s v) t = if t = s then some v else MT ps t
  | [] => rfl
  | x :: r => by
    show MT (if s = x.1 then (x.1, v) :: r else x :: setM r s v) t = if t = s then some v else (if t = x.1 then some x.2 else MT r t)
    by_cases e : s = x.1
    · rw [if_pos e]
      show (if t = x.1 then some v else MT r t) = _
      rw [← e]
      by_cases g : t = s
      · rw [if_pos g, if_pos g]
      · rw [if_neg g, if_neg g, if_neg g]
    · rw [if_neg e]
      show (if t = x.1 then some x.2 else MT (setM r s v) t) = _
      rw [MT_set s v t r]
      by_cases g : t = x.1
      · rw [if_pos g, if_neg (fun h : t = s => e (h.symm.trans g)), if_pos g]
      · rw [if_neg g, if_neg g]
theorem setM_keys (s : Stt) (v : Int) : ∀ ps : List (Stt × Int), (setM ps s v).map (·.1) = if (MT ps s).isSome then ps.map (·.1) else ps.map (·.1) ++ [s]
  | [] => rfl
  | x :: r => by
    show (if s = x.1 then (x.1, v) :: r else x :: setM r s v).map (·.1) = if (if s = x.1 then some x.2 else MT r s).isSome then x.1 :: r.map (·.1) else (x.1 :: r.map (·.1)) ++ [s]
    by_cases e : s = x.1
    · rw [if_pos e, if_pos e]; rfl
    · rw [if_neg e, if_neg e, List.map_cons, setM_keys s v r]
      split <;> rfl
theorem MT_mem {ps : List (Stt × Int)} {s : Stt} : (MT ps s).isSome ↔ s ∈ ps.map (·.1) := by
  induction ps with
  | nil => simp [MT]
  | cons x r ih =>
    show (if s = x.1 then some x.2 else MT r s).isSome ↔ _
    by_cases e : s = x.1
    · rw [if_pos e]; simp [e]
    · rw [if_neg e, ih]; simp [e]
theorem setM_sum (s : Stt) (v : Int) : ∀ ps : List (Stt × Int), sumM (setM ps s v) + ((MT ps s).getD 0).toNat = sumM ps + v.toNat
  | [] => by simp [setM, sumM, MT]
  | x :: r => by
    show sumM (if s = x.1 then (x.1, v) :: r else x :: setM r s v) + ((if s = x.1 then some x.2 else MT r s).getD 0).toNat = sumM (x :: r) + v.toNat
    have e2 : ∀ (y : Stt × Int) (l : List (Stt × Int)), sumM (y :: l) = y.2.toNat + sumM l := fun y l => by simp [sumM]
    by_cases e : s = x.1
    · rw [if_pos e, if_pos e, e2, e2]; simp only [Option.getD_some]; omega
    · rw [if_neg e, if_neg e, e2, e2]
      have := setM_sum s v r
      omega
theorem setM_len (s : Stt) (v : Int) (ps : List (Stt × Int)) : (setM ps s v).length = if (MT ps s).isSome then ps.length else ps.length + 1 := by
  have := congrArg List.length (setM_keys s v ps)
  rw [List.length_map] at this
  rw [this]; split <;> simp
/-- States with different numbers are few. -/
theorem nodup_leN {l : List Nat} (hn : l.Nodup) {n : Nat} (h : ∀ x ∈ l, x < n) : l.length ≤ n := by
  have key : ∀ (l : List Nat), l.Nodup → ∀ M : List Nat, (∀ x ∈ l, x ∈ M) → l.length ≤ M.length := by
    intro l
    induction l with
    | nil => intro _ M _; simp
    | cons a r ih =>
      intro hn M h
      rw [List.nodup_cons] at hn
      have ha := h a (by simp)
      have := ih hn.2 (M.erase a) (fun x hx => by
        have hxa : x ≠ a := fun e => hn.1 (e ▸ hx)
        exact (List.mem_erase_of_ne hxa).2 (h x (List.mem_cons_of_mem _ hx)))
      rw [List.length_erase_of_mem ha] at this
      have hM : 0 < M.length := List.length_pos_of_mem ha
      simp only [List.length_cons]; omega
  have := key l hn (List.range n) (fun x hx => List.mem_range.2 (h x hx))
  simpa using this
theorem states_le {m : Mz} (hm : MzOk m) {l : List Stt} (hn : l.Nodup) (h : ∀ s ∈ l, SOk m s) : l.length ≤ 720 := by
  obtain ⟨⟨h1, h2⟩, ⟨h3, h4⟩, _⟩ := hm
  have hN : m.length * width m ≤ 12 * 12 := Nat.mul_le_mul h2 h4
  have hn2 : (l.map (sx m)).Nodup := by
    have aux : ∀ l : List Stt, l.Nodup → (∀ s ∈ l, SOk m s) → (l.map (sx m)).Nodup := by
      intro l
      induction l with
      | nil => intro _ _; simp
      | cons a r ih =>
        intro hn h
        rw [List.nodup_cons] at hn
        rw [List.map_cons, List.nodup_cons]
        refine ⟨fun hm => ?_, ih hn.2 (fun s hs => h s (List.mem_cons_of_mem _ hs))⟩
        obtain ⟨b, hb, e⟩ := List.mem_map.1 hm
        have := sx_inj (h b (List.mem_cons_of_mem _ hb)).inn (h a (by simp)).inn e
        exact hn.1 (this ▸ hb)
    exact aux l hn h
  have := nodup_leN hn2 (n := 720) (fun x hx => by
    obtain ⟨s, hs, rfl⟩ := List.mem_map.1 hx
    have := sx_lt (h s hs).inn
    omega)
  rw [List.length_map] at this; exact this
/-- A map of costs in the midst of a search. -/
structure MOk (m : Mz) (to : Pt) (bend : Int) (ps : List (Stt × Int)) : Prop where
  nd : (ps.map (·.1)).Nodup
  tab : TOk m to bend (MT ps)
  dom : ∀ s c, MT ps s = some c → SOk m s
  bnd : ∀ s c, MT ps s = some c → c ≤ (9 + bend) * (ps.length : Int)
theorem MOk.len {m : Mz} {to : Pt} {bend : Int} {ps : List (Stt × Int)} (hm : MzOk m) (h : MOk m to bend ps) : ps.length ≤ 720 := by
  have := states_le hm h.nd (fun s hs => by
    have := MT_mem.2 hs
    cases e : MT ps s with
    | none => rw [e] at this; simp at this
    | some c => exact h.dom s c e)
  rw [List.length_map] at this; exact this
/-- What a map may still lose. -/
def potM (bend : Int) (ps : List (Stt × Int)) : Nat := (721 - ps.length) * ((9 + bend) * 722).toNat + sumM ps
theorem MOk.put {m : Mz} {to : Pt} {bend : Int} {ps : List (Stt × Int)} (hb : 0 ≤ bend) (hm : MzOk m) (h : MOk m to bend ps) {s : Stt} (hs : SOk m s) (hn2 : s.1 = to → False) {k : Nat} (hk : k < 4) (ho : OpenAt m (stepTo s.1 (k : Int))) {c : Int} (hc : MT ps (nextS s k) = some c)
    (hlow : ∀ d, MT ps s = some d → costS m bend s k + c < d) : MOk m to bend (setM ps s (costS m bend s k + c)) := by
  have hc0 := (h.tab.real _ _ hc).nonneg hb
  have hcp := costS_pos hb ho
  have hcl := costS_le hm hb ho
  have hbc := h.bnd _ _ hc
  have hlen := setM_len s (costS m bend s k + c) ps
  refine ⟨?_, ⟨fun t d ht => ?_, fun w h0 h4 => ?_⟩, fun t d ht => ?_, fun t d ht => ?_⟩
  · rw [setM_keys]
    split
    · exact h.nd
    · rename_i hno
      rw [List.nodup_append]
      exact ⟨h.nd, by simp, fun a ha b hb' e => hno (MT_mem.2 (by rw [List.mem_singleton.1 hb'] at e; exact e ▸ ha))⟩
  · rw [MT_set] at ht
    split at ht
    · rename_i e; cases ht; subst e
      exact .step k hk ho (h.tab.real _ _ hc)
    · exact h.tab.real _ _ ht
  · rw [MT_set, if_neg (fun e => hn2 (by rw [← e]))]
    exact h.tab.goal w h0 h4
  · rw [MT_set] at ht
    split at ht
    · rename_i e; subst e; exact hs
    · exact h.dom _ _ ht
  · have hge : (ps.length : Int) ≤ ((setM ps s (costS m bend s k + c)).length : Int) := by rw [hlen]; split <;> omega
    have hmono : (9 + bend) * (ps.length : Int) ≤ (9 + bend) * ((setM ps s (costS m bend s k + c)).length : Int) := Int.mul_le_mul_of_nonneg_left hge (by omega)
    rw [MT_set] at ht
    split at ht
    · cases ht
      cases e : MT ps s with
      | none =>
        rw [hlen, e]
        have : (9 + bend) * ((ps.length + 1 : Nat) : Int) = (9 + bend) * (ps.length : Int) + (9 + bend) := by rw [Int.natCast_add, Int.mul_add]; simp
        simp only [Option.isSome_none, Bool.false_eq_true, if_false]
        omega
      | some d =>
        have h8 := hlow d e
        have h9 := h.bnd _ _ e
        omega
    · have := h.bnd _ _ ht
      omega
theorem MOk.put_lt {m : Mz} {to : Pt} {bend : Int} {ps : List (Stt × Int)} (hb : 0 ≤ bend) (hm : MzOk m) (h : MOk m to bend ps) {s : Stt} {k : Nat} (ho : OpenAt m (stepTo s.1 (k : Int))) {c : Int} (hc : MT ps (nextS s k) = some c)
    (hlow : ∀ d, MT ps s = some d → costS m bend s k + c < d) : potM bend (setM ps s (costS m bend s k + c)) < potM bend ps := by
  have hc0 := (h.tab.real _ _ hc).nonneg hb
  have hcp := costS_pos hb ho
  have hcl := costS_le hm hb ho
  have hbc := h.bnd _ _ hc
  have hl := h.len hm
  have hlen := setM_len s (costS m bend s k + c) ps
  have hsum := setM_sum s (costS m bend s k + c) ps
  have hbig : (9 + bend) * (ps.length : Int) ≤ (9 + bend) * 720 := Int.mul_le_mul_of_nonneg_left (by omega) (by omega)
  unfold potM
  cases e : MT ps s with
  | none =>
    rw [e] at hlen hsum
    simp only [Option.isSome_none, Bool.false_eq_true, if_false, Option.getD_none] at hlen hsum
    rw [hlen, show 721 - ps.length = (721 - (ps.length + 1)) + 1 by omega, Nat.succ_mul]
    have h1 : (costS m bend s k + c).toNat < ((9 + bend) * 722).toNat := by omega
    simp only [Int.toNat_zero] at hsum
    omega
  | some d =>
    have h8 := hlow d e
    rw [e] at hlen hsum
    simp only [Option.isSome_some, if_true, Option.getD_some] at hlen hsum
    rw [hlen]
    omega
end Go.Proofs.Ytlfhhgfhoddgpaa
end
section
set_option linter.unusedSimpArgs false
set_option linter.unusedVariables false
set_option maxHeartbeats 2000000
namespace Go.Proofs.Ytlfhhgfhoddgpaa
open Go.Eng
/-- A state, as a value. -/
abbrev sv (s : Stt) : AVal := .agg [.v (.int .i64 s.1.1), .v (.int .i64 s.1.2), .v (.int .i64 s.2)]
theorem after45v_ac (m : Mz) (s : Stt) (k : Nat) (bend : Int) (hm : MzOk m) (hs : SOk m s) (hk : k < 4) (hb : 0 ≤ bend ∧ bend ≤ 1000000000) (ho : OpenAt m (stepTo s.1 (k : Int))) (H : List ABox) :
    AC Try.prog 34 [.rp [.rd (.sli .i64) (m)] 0, sv s, .v (.int .i64 ((k : Int))), .v (.int .i64 (bend))] H (fun r H' => r = .tup [sv (nextS s k), .v (.int .i64 (costS m bend s k)), .v (.bool (true))] ∧ H' = H) := by
  have hd : decide (OpenAt m (stepTo s.1 (k : Int))) = true := decide_eq_true ho
  have hi : InMz m (stepTo s.1 (k : Int)) := ho.1
  have hc := (hm.cell hi).2.2.2
  have hbn := OpenAt.bnd hm hs.1
  have hs2 := hs.2
  have hct : s.2 < 4 ∧ s.2 ≠ (k : Int) → costS m bend s k = cell m (stepTo s.1 (k : Int)) + bend := fun h => if_pos h
  have hcf : ¬ (s.2 < 4 ∧ s.2 ≠ (k : Int)) → costS m bend s k = cell m (stepTo s.1 (k : Int)) := fun h => if_neg h
  refine AC.enter envOk Try.func34 rfl (by decide) Try.ntmps34 Try.results34 (by simp) fun hB => ?_
  repeat' (first | (with_reducible first | refine AW.sreg envOk fun K hK => ?_ | refine AW.region envOk fun K hK => ?_ | refine vcL_nil ?_) | (with_reducible (first | refine vcL_cons fun K' hK' => ?_); simp only [isC, Bool.false_or, Bool.or_true, ↓reduceDIte, List.take_length, Nat.le_refl, List.drop_zero, vGuard, undef, Bool.not_eq_eq_eq_not, dstOk, vcOp, vcF, isPure, putS, vcCall, St.ev, St.put, lk, AVal.ofVal, initS, Nat.reduceLT, true_and, and_true, vBin, vUn, vPick, vPart, vLoad, vStore, vFldA, vAlloc, vBox, vBuild, partsA, fillA, decAll, AVal.flat, AVal.cell, cellsOk, setRange, ETy.enc, ETy.dec, ETy.sz, ETy.d, cond, Nat.reduceBEq, Nat.reduceAdd, Int.toNat_natCast, List.length_set, List.length_append, List.length_replicate, List.length_take, Nat.reduceSub, Nat.reduceEqDiff, get_loc, setBox_loc, next_eq, List.length_cons, List.length_nil, List.map_cons, List.map_nil, List.append_nil, List.nil_append, List.cons_append, List.set_cons_zero, List.set_cons_succ, getD_zero, getD_succ, List.getElem?_cons_succ, List.getElem?_cons_zero, List.take_succ_cons, List.take_zero, List.drop_succ_cons, List.all_cons, List.all_nil, Bool.and_true, Bool.true_and, Option.bind_some, Option.map_some, Option.map_none, decide_eq_true_eq, decide_eq_false_iff_not, ne_eq, Bool.not_eq_true, Bool.not_eq_false, Decidable.not_not, not_true_eq_false, not_false_eq_true, forall_const, false_implies, Bool.true_eq_false, Bool.false_eq_true, reduceCtorEq, decide_true, decide_false, Bool.not_true, Bool.not_false, if_true, if_false, Nat.zero_add, Nat.lt_irrefl, Value.oneCell', gt_iff_lt, Nat.reduceLeDiff, Nat.lt_add_one, vvar_2, vzero_2, vknd_2, vsn_2, vvar_3, vzero_3, vknd_3, vsn_3, vvar_4, vzero_4, vknd_4, vsn_4, vvar_8, vzero_8, vbld_8, vvar_29, vzero_29, vbld_29, vpts_29, vvar_55, vzero_55, vvar_67, vzero_67, vbld_67, vfld_67_0, vfld_67_1, hd]; try simp (disch := omega) only [wrap64]) | (with_reducible refine hK' _ ?_; clear hK' K') | (with_reducible refine hK _ ?_; clear hK K) | ((with_reducible show vCall _ (AVal.fn 42 _) _ _ _); refine vCall_pure (step58_ac s.1 _ (by omega) (by omega) _) ?_) | ((with_reducible show vCall _ (AVal.fn 36 _) _ _ _); refine vCall_pure (open44_ac m (stepTo s.1 (k : Int)) hm _) ?_) | ((with_reducible show vCall _ (AVal.fn 31 _) _ _ _); refine vCall_pure (price49_ac m (stepTo s.1 (k : Int)) hm hi _) ?_) | (with_reducible first | refine And.intro (And.intro rfl rfl) ?_ | refine And.intro (by omega) ?_) | (with_reducible refine And.intro (fun hg => ?_) (fun hg => ?_) <;> first | simp only [eq_false hg, rsB] | simp only [eq_true hg, rsB] | simp only [hg, rsB]) | (with_reducible first | refine And.intro rfl (And.intro rfl rfl) | refine thenQ_n ?_ | refine thenQ_exit ?_ | refine thenQ_ret ?_ | refine midQ_ret ?_ | refine midQ_exit ?_ | refine blockQ_same ?_ | refine blockQ_ne (by decide) ?_ | refine blockQ_ret ?_ | refine blockQ_n ?_ | refine AW.exit ?_ | refine AW.block ?_ | refine AW.cond_t rfl ?_ | refine AW.cond_f rfl ?_ | refine AW.cond_dec rfl (fun hc => ?_) (fun hc => ?_)) | (with_reducible refine AW.cond rfl (fun hc => ?_) (fun hc => ?_) <;> try simp only [Bool.not_eq_eq_eq_not, Bool.not_true, Bool.not_false, decide_eq_true_eq, decide_eq_false_iff_not] at hc) | (with_reducible first | refine AW.seq ?_ | refine AW.skip ?_ | refine AW.ret ?_ | refine And.intro ?_ ?_) | (with_reducible intro hg; first | simp only [eq_false hg, rsB] | simp only [eq_true hg, rsB]) | (with_reducible refine retQ_drop ?_; simp only [vRes, packRes, vLoad, vPart, lk, cond, Nat.reduceBEq, get_loc, getD_zero, getD_succ, true_and, List.length_cons, List.length_nil, Nat.reduceAdd, Nat.reduceLT, Nat.reduceLeDiff, List.take_succ_cons, List.take_zero, List.drop_succ_cons, List.drop_zero, vvar_2, vzero_2, vknd_2, vsn_2, vvar_3, vzero_3, vknd_3, vsn_3, vvar_4, vzero_4, vknd_4, vsn_4, vvar_8, vzero_8, vbld_8, vvar_29, vzero_29, vbld_29, vpts_29, vvar_55, vzero_55, vvar_67, vzero_67, vbld_67, vfld_67_0, vfld_67_1]) )
  all_goals first
    | (exfalso; omega)
    | contradiction
    | skip
  all_goals first
    | (rw [hct (by omega)]; exact ⟨_, _, FinOk.drop hB (Pl.ids (by (repeat' (first | exact Pl.v _ | exact Pl.junk | exact Pl.rd rfl _ | exact pl_nil | refine pl_cons ?_ ?_ | refine Pl.agg ?_ | refine Pl.tup ?_ | refine Pl.rp ?_ | refine Pl.fn ?_)); (first | done | fail))), rfl, rfl⟩)
    | (rw [hcf (by omega)]; exact ⟨_, _, FinOk.drop hB (Pl.ids (by (repeat' (first | exact Pl.v _ | exact Pl.junk | exact Pl.rd rfl _ | exact pl_nil | refine pl_cons ?_ ?_ | refine Pl.agg ?_ | refine Pl.tup ?_ | refine Pl.rp ?_ | refine Pl.fn ?_)); (first | done | fail))), rfl, rfl⟩)
theorem after45n_ac (m : Mz) (s : Stt) (k : Nat) (bend : Int) (hm : MzOk m) (hs : SOk m s) (hk : k < 4) (hb : 0 ≤ bend ∧ bend ≤ 1000000000) (ho : ¬ OpenAt m (stepTo s.1 (k : Int))) (H : List ABox) :
    AC Try.prog 34 [.rp [.rd (.sli .i64) (m)] 0, sv s, .v (.int .i64 ((k : Int))), .v (.int .i64 (bend))] H (fun r H' => r = .tup [sv ((0, 0), 0), .v (.int .i64 (0)), .v (.bool (false))] ∧ H' = H) := by
  have hd : decide (OpenAt m (stepTo s.1 (k : Int))) = false := decide_eq_false ho
  have hbn := OpenAt.bnd hm hs.1
  refine AC.enter envOk Try.func34 rfl (by decide) Try.ntmps34 Try.results34 (by simp) fun hB => ?_
  repeat' (first | (with_reducible first | refine AW.sreg envOk fun K hK => ?_ | refine AW.region envOk fun K hK => ?_ | refine vcL_nil ?_) | (with_reducible (first | refine vcL_cons fun K' hK' => ?_); simp only [isC, Bool.false_or, Bool.or_true, ↓reduceDIte, List.take_length, Nat.le_refl, List.drop_zero, vGuard, undef, Bool.not_eq_eq_eq_not, dstOk, vcOp, vcF, isPure, putS, vcCall, St.ev, St.put, lk, AVal.ofVal, initS, Nat.reduceLT, true_and, and_true, vBin, vUn, vPick, vPart, vLoad, vStore, vFldA, vAlloc, vBox, vBuild, partsA, fillA, decAll, AVal.flat, AVal.cell, cellsOk, setRange, ETy.enc, ETy.dec, ETy.sz, ETy.d, cond, Nat.reduceBEq, Nat.reduceAdd, Int.toNat_natCast, List.length_set, List.length_append, List.length_replicate, List.length_take, Nat.reduceSub, Nat.reduceEqDiff, get_loc, setBox_loc, next_eq, List.length_cons, List.length_nil, List.map_cons, List.map_nil, List.append_nil, List.nil_append, List.cons_append, List.set_cons_zero, List.set_cons_succ, getD_zero, getD_succ, List.getElem?_cons_succ, List.getElem?_cons_zero, List.take_succ_cons, List.take_zero, List.drop_succ_cons, List.all_cons, List.all_nil, Bool.and_true, Bool.true_and, Option.bind_some, Option.map_some, Option.map_none, decide_eq_true_eq, decide_eq_false_iff_not, ne_eq, Bool.not_eq_true, Bool.not_eq_false, Decidable.not_not, not_true_eq_false, not_false_eq_true, forall_const, false_implies, Bool.true_eq_false, Bool.false_eq_true, reduceCtorEq, decide_true, decide_false, Bool.not_true, Bool.not_false, if_true, if_false, Nat.zero_add, Nat.lt_irrefl, Value.oneCell', gt_iff_lt, Nat.reduceLeDiff, Nat.lt_add_one, vvar_2, vzero_2, vknd_2, vsn_2, vvar_3, vzero_3, vknd_3, vsn_3, vvar_4, vzero_4, vknd_4, vsn_4, vvar_8, vzero_8, vbld_8, vvar_29, vzero_29, vbld_29, vpts_29, vvar_55, vzero_55, vvar_67, vzero_67, vbld_67, vfld_67_0, vfld_67_1, hd]; try simp (disch := omega) only [wrap64]) | (with_reducible refine hK' _ ?_; clear hK' K') | (with_reducible refine hK _ ?_; clear hK K) | ((with_reducible show vCall _ (AVal.fn 42 _) _ _ _); refine vCall_pure (step58_ac s.1 _ (by omega) (by omega) _) ?_) | ((with_reducible show vCall _ (AVal.fn 36 _) _ _ _); refine vCall_pure (open44_ac m (stepTo s.1 (k : Int)) hm _) ?_) | (with_reducible first | refine And.intro (And.intro rfl rfl) ?_ | refine And.intro (by omega) ?_) | (with_reducible refine And.intro (fun hg => ?_) (fun hg => ?_) <;> first | simp only [eq_false hg, rsB] | simp only [eq_true hg, rsB] | simp only [hg, rsB]) | (with_reducible first | refine And.intro rfl (And.intro rfl rfl) | refine thenQ_n ?_ | refine thenQ_exit ?_ | refine thenQ_ret ?_ | refine midQ_ret ?_ | refine midQ_exit ?_ | refine blockQ_same ?_ | refine blockQ_ne (by decide) ?_ | refine blockQ_ret ?_ | refine blockQ_n ?_ | refine AW.exit ?_ | refine AW.block ?_ | refine AW.cond_t rfl ?_ | refine AW.cond_f rfl ?_ | refine AW.cond_dec rfl (fun hc => ?_) (fun hc => ?_)) | (with_reducible refine AW.cond rfl (fun hc => ?_) (fun hc => ?_) <;> try simp only [Bool.not_eq_eq_eq_not, Bool.not_true, Bool.not_false, decide_eq_true_eq, decide_eq_false_iff_not] at hc) | (with_reducible first | refine AW.seq ?_ | refine AW.skip ?_ | refine AW.ret ?_ | refine And.intro ?_ ?_) | (with_reducible intro hg; first | simp only [eq_false hg, rsB] | simp only [eq_true hg, rsB]) | (with_reducible refine retQ_drop ?_; simp only [vRes, packRes, vLoad, vPart, lk, cond, Nat.reduceBEq, get_loc, getD_zero, getD_succ, true_and, List.length_cons, List.length_nil, Nat.reduceAdd, Nat.reduceLT, Nat.reduceLeDiff, List.take_succ_cons, List.take_zero, List.drop_succ_cons, List.drop_zero, vvar_2, vzero_2, vknd_2, vsn_2, vvar_3, vzero_3, vknd_3, vsn_3, vvar_4, vzero_4, vknd_4, vsn_4, vvar_8, vzero_8, vbld_8, vvar_29, vzero_29, vbld_29, vpts_29, vvar_55, vzero_55, vvar_67, vzero_67, vbld_67, vfld_67_0, vfld_67_1]) )
  all_goals first
    | (exfalso; omega)
    | contradiction
    | skip
  all_goals exact ⟨_, _, FinOk.drop hB (Pl.ids (by (repeat' (first | exact Pl.v _ | exact Pl.junk | exact Pl.rd rfl _ | exact pl_nil | refine pl_cons ?_ ?_ | refine Pl.agg ?_ | refine Pl.tup ?_ | refine Pl.rp ?_ | refine Pl.fn ?_)); (first | done | fail))), rfl, rfl⟩
end Go.Proofs.Ytlfhhgfhoddgpaa
end
section
set_option linter.unusedSimpArgs false
set_option linter.unusedVariables false
set_option maxHeartbeats 4000000
namespace Go.Proofs.Ytlfhhgfhoddgpaa
open Go.Eng
/-- The cell with a number. -/
def cellAt (m : Mz) (i : Nat) : Pt := (((i % width m : Nat) : Int), ((i / width m : Nat) : Int))
theorem cellAt_in {m : Mz} {i : Nat} (h : i < m.length * width m) : InMz m (cellAt m i) ∧ ixP m (cellAt m i) = (i : Int) := by
  have hw : 0 < width m := by
    rcases Nat.eq_zero_or_pos (width m) with e | e
    · rw [e, Nat.mul_zero] at h; omega
    · exact e
  have h1 := Nat.mod_lt i hw
  have h2 : i / width m < m.length := Nat.div_lt_of_lt_mul (by rw [Nat.mul_comm]; exact h)
  have h3 := Nat.div_add_mod i (width m)
  unfold cellAt
  generalize i / width m = q at h2 h3 ⊢
  generalize i % width m = r at h1 h3 ⊢
  refine ⟨⟨⟨by simp only; omega, by simp only; omega⟩, by simp only; omega, by simp only; omega⟩, ?_⟩
  unfold ixP
  simp only
  have h4 : ((width m * q + r : Nat) : Int) = (i : Int) := by rw [h3]
  rw [Int.natCast_add, Int.natCast_mul] at h4
  rw [Int.mul_comm]; exact h4
/-- Nothing is to be lowered at the states ahead of this place. -/
def ClTo (m : Mz) (to : Pt) (bend : Int) (L : List Int) (i w k : Nat) : Prop := ∀ s, SOk m s → s.1 ≠ to → ∀ j : Nat, j < 4 → (ixP m s.1 < i ∨ (ixP m s.1 = i ∧ (s.2 < w ∨ (s.2 = w ∧ j < k)))) → OpenAt m (stepTo s.1 (j : Int)) →
  ∀ c, LT m L (nextS s j) = some c → ∃ c0, LT m L s = some c0 ∧ c0 ≤ costS m bend s j + c
theorem ClTo.zero {m : Mz} {to : Pt} {bend : Int} {L : List Int} : ClTo m to bend L 0 0 0 := fun s hs hn j hj h => by
  have := (ixP_bnd2 hs.1.1).1
  have := hs.2
  omega
theorem ClTo.all {m : Mz} {to : Pt} {bend : Int} {L : List Int} (hb : 0 ≤ bend) (h : LOk m to bend L) (hc : ClTo m to bend L (m.length * width m) 0 0) : TClosed m bend (LT m L) := fun s hs k hk ho c ht => by
  by_cases e : s.1 = to
  · have h0 := h.tab.goal s.2 hs.2.1 hs.2.2
    rw [← e] at h0
    refine ⟨0, h0, ?_⟩
    have := (h.tab.real _ _ ht).nonneg hb
    have := costS_pos hb ho
    omega
  · refine hc s hs e k hk (.inl ?_) ho c ht
    have := (ixP_bnd2 hs.1.1).2
    have h4 : ((m.length * width m : Nat) : Int) = (m.length : Int) * width m := by simp
    omega
theorem ClTo.k_next {m : Mz} {to : Pt} {bend : Int} {L : List Int} {i w k : Nat} (hi : i < m.length * width m) (h : ClTo m to bend L i w k)
    (hh : OpenAt m (stepTo (cellAt m i) (k : Int)) → ∀ c, LT m L (nextS (cellAt m i, (w : Int)) k) = some c → ∃ c0, LT m L (cellAt m i, (w : Int)) = some c0 ∧ c0 ≤ costS m bend (cellAt m i, (w : Int)) k + c) : ClTo m to bend L i w (k + 1) := fun s hso hn j hj hp ho c ht => by
  by_cases e : ixP m s.1 = i ∧ s.2 = w ∧ j = k
  · obtain ⟨e1, e2, e3⟩ := e
    have e4 := ixP_inj hso.1.1 (cellAt_in hi).1 (by rw [(cellAt_in hi).2]; exact e1)
    have e5 : s = (cellAt m i, (w : Int)) := Prod.ext e4 e2
    subst e3
    rw [e5] at ho ht ⊢
    exact hh ho c ht
  · exact h s hso hn j hj (by omega) ho c ht
/-- The place of a sweep: nothing was lowered yet in it, or the sum is less. -/
def SwOk (m : Mz) (to : Pt) (bend : Int) (L0 : List Int) (L : List Int) (fl : Bool) (i w k : Nat) : Prop :=
  LOk m to bend L ∧ ((fl = false ∧ L = L0 ∧ ClTo m to bend L i w k) ∨ (fl = true ∧ wsum ((9 + bend) * 722).toNat L < wsum ((9 + bend) * 722).toNat L0))
theorem SwOk.mono {m : Mz} {to : Pt} {bend : Int} {L0 L : List Int} {fl : Bool} {i w k i' w' k' : Nat} (h : SwOk m to bend L0 L fl i w k) (hc : ClTo m to bend L i w k → ClTo m to bend L i' w' k') : SwOk m to bend L0 L fl i' w' k' :=
  ⟨h.1, h.2.imp (fun ⟨a, b, c⟩ => ⟨a, b, hc c⟩) id⟩
theorem SwOk.put {m : Mz} {to : Pt} {bend : Int} {L0 L : List Int} {fl : Bool} {i w k i' w' k' : Nat} (h : SwOk m to bend L0 L fl i w k) {L' : List Int} (h1 : LOk m to bend L') (h2 : wsum ((9 + bend) * 722).toNat L' < wsum ((9 + bend) * 722).toNat L) : SwOk m to bend L0 L' true i' w' k' :=
  ⟨h1, .inr ⟨rfl, by rcases h.2 with ⟨_, e, _⟩ | ⟨_, g⟩
                     · rw [← e]; exact h2
                     · omega⟩⟩
/-- The first w entries of the goal are set. -/
def GoTo (m : Mz) (to : Pt) (L : List Int) (w : Nat) : Prop := L.length = 5 * (m.length * width m) ∧ ∀ j, j < L.length → L.getD j 0 = if 5 * (ixP m to).toNat ≤ j ∧ j < 5 * (ixP m to).toNat + w then 0 else -1
theorem GoTo.start {m : Mz} {to : Pt} : GoTo m to (List.replicate (5 * (m.length * width m)) (-1)) 0 := by
  refine ⟨by simp, fun j hj => ?_⟩
  rw [if_neg (by omega)]
  have : j < 5 * (m.length * width m) := by simpa using hj
  simp [List.getD, this]
theorem GoTo.next {m : Mz} {to : Pt} {L : List Int} {w : Nat} (h : GoTo m to L w) : GoTo m to (L.set (5 * (ixP m to).toNat + w) 0) (w + 1) := by
  refine ⟨by rw [List.length_set]; exact h.1, fun j hj => ?_⟩
  rw [List.length_set] at hj
  by_cases e : 5 * (ixP m to).toNat + w = j
  · subst e
    rw [getD_setE hj, if_pos (by omega)]
  · rw [getD_setN e, h.2 j hj]
    by_cases g : 5 * (ixP m to).toNat ≤ j ∧ j < 5 * (ixP m to).toNat + w
    · rw [if_pos g, if_pos (by omega)]
    · rw [if_neg g, if_neg (by omega)]
theorem GoTo.ok {m : Mz} {to : Pt} {bend : Int} {L : List Int} (hb : 0 ≤ bend) (ho : OpenAt m to) (h : GoTo m to L 5) : LOk m to bend L := by
  have htb := ixP_bnd2 ho.1
  have key : ∀ s c, LT m L s = some c ↔ (SIn m s ∧ s.1 = to) ∧ c = 0 := fun s c => by
    rw [LT_some]
    constructor
    · rintro ⟨h1, h2, h3⟩
      have hl := sx_lt h1
      have he := sx_eq h1
      have hs2 := h1.2
      have hsb := ixP_bnd2 h1.1
      have hv := h.2 (sx m s) (by rw [h.1]; exact hl)
      by_cases g : 5 * (ixP m to).toNat ≤ sx m s ∧ sx m s < 5 * (ixP m to).toNat + 5
      · rw [if_pos g] at hv
        exact ⟨⟨h1, ixP_inj h1.1 ho.1 (by omega)⟩, by omega⟩
      · rw [if_neg g] at hv; omega
    · rintro ⟨⟨h1, h2⟩, rfl⟩
      have hl := sx_lt h1
      have he := sx_eq h1
      have hs2 := h1.2
      rw [h2] at he
      have hv := h.2 (sx m s) (by rw [h.1]; exact hl)
      rw [if_pos (by omega)] at hv
      exact ⟨h1, by omega, hv⟩
  refine ⟨h.1, ⟨fun s c hs => ?_, fun w h0 h4 => (key _ _).2 ⟨⟨⟨ho.1, h0, h4⟩, rfl⟩, rfl⟩⟩, fun s c hs => ?_, fun s c hs => ?_⟩
  · obtain ⟨⟨h1, h2⟩, rfl⟩ := (key s c).1 hs
    obtain ⟨p, w⟩ := s
    simp only at h2
    subst h2
    exact .done w
  · obtain ⟨⟨h1, h2⟩, rfl⟩ := (key s c).1 hs
    exact ⟨h2 ▸ ho, h1.2⟩
  · obtain ⟨⟨h1, h2⟩, rfl⟩ := (key s c).1 hs
    exact Int.mul_nonneg (by omega) (by omega)
theorem sx_cell {m : Mz} {i w : Nat} (hi : i < m.length * width m) : sx m (cellAt m i, (w : Int)) = 5 * i + w := by
  unfold sx
  rw [(cellAt_in hi).2]
  omega
end Go.Proofs.Ytlfhhgfhoddgpaa
end
section
set_option linter.unusedSimpArgs false
set_option linter.unusedVariables false
set_option maxHeartbeats 4000000
namespace Go.Proofs.Ytlfhhgfhoddgpaa
open Go.Eng
/-- The states gathered so far: of the cells ahead of column x of row y, and the first w of this cell. -/
def AllTo (m : Mz) (xs : List Stt) (y x w : Nat) : Prop := xs.length ≤ 5 * (y * width m + x) + w ∧ ∀ s, s ∈ xs ↔ SOk m s ∧ (s.1.2 < (y : Int) ∨ (s.1.2 = (y : Int) ∧ (s.1.1 < (x : Int) ∨ (s.1.1 = (x : Int) ∧ s.2 < (w : Int)))))
theorem AllTo.zero {m : Mz} : AllTo m [] 0 0 0 := by
  refine ⟨by simp, fun s => ⟨fun h => by simp at h, fun ⟨h, g⟩ => ?_⟩⟩
  obtain ⟨⟨⟨⟨a, b⟩, c, d⟩, _⟩, e, f⟩ := h
  omega
theorem AllTo.yes {m : Mz} {xs : List Stt} {y x w : Nat} (h : AllTo m xs y x w) (ho : OpenAt m ((x : Int), (y : Int))) (hw : w < 5) : AllTo m (xs ++ [(((x : Int), (y : Int)), (w : Int))]) y x (w + 1) := by
  refine ⟨by have := h.1; simp; omega, fun s => ?_⟩
  rw [List.mem_append, h.2, List.mem_singleton]
  constructor
  · rintro (⟨h1, h2⟩ | rfl)
    · exact ⟨h1, by omega⟩
    · exact ⟨⟨ho, by simp only; omega, by simp only; omega⟩, .inr ⟨rfl, .inr ⟨rfl, by simp only; omega⟩⟩⟩
  · rintro ⟨h1, h2⟩
    by_cases e : s.1.2 = (y : Int) ∧ s.1.1 = (x : Int) ∧ s.2 = (w : Int)
    · exact .inr (Prod.ext (Prod.ext e.2.1 e.1) e.2.2)
    · exact .inl ⟨h1, by omega⟩
theorem AllTo.no {m : Mz} {xs : List Stt} {y x w : Nat} (h : AllTo m xs y x w) (ho : ¬ OpenAt m ((x : Int), (y : Int))) : AllTo m xs y x (w + 1) := by
  refine ⟨by have := h.1; omega, fun s => ?_⟩
  rw [h.2]
  constructor
  · rintro ⟨h1, h2⟩; exact ⟨h1, by omega⟩
  · rintro ⟨h1, h2⟩
    refine ⟨h1, ?_⟩
    by_cases e : s.1.2 = (y : Int) ∧ s.1.1 = (x : Int)
    · exact absurd (by rw [show ((x : Int), (y : Int)) = s.1 from (Prod.ext e.2 e.1).symm]; exact h1.1) ho
    · omega
theorem AllTo.x_next {m : Mz} {xs : List Stt} {y x : Nat} (h : AllTo m xs y x 5) : AllTo m xs y (x + 1) 0 := by
  refine ⟨by have := h.1; omega, fun s => ?_⟩
  rw [h.2]
  constructor
  · rintro ⟨h1, h2⟩; exact ⟨h1, by have := h1.2; omega⟩
  · rintro ⟨h1, h2⟩; exact ⟨h1, by have := h1.2; omega⟩
theorem AllTo.y_next {m : Mz} {xs : List Stt} {y : Nat} (h : AllTo m xs y (width m) 0) : AllTo m xs (y + 1) 0 0 := by
  refine ⟨by have := h.1; have e : (y + 1) * width m = y * width m + width m := Nat.succ_mul _ _; omega, fun s => ?_⟩
  rw [h.2]
  constructor
  · rintro ⟨h1, h2⟩
    have h3 := h1.2
    exact ⟨h1, by omega⟩
  · rintro ⟨h1, h2⟩
    have h3 := h1.2
    obtain ⟨⟨a, b⟩, c, d⟩ := h1.1.1
    exact ⟨h1, by omega⟩
theorem AllTo.all {m : Mz} {xs : List Stt} (h : AllTo m xs m.length 0 0) (s : Stt) : s ∈ xs ↔ SOk m s := by
  rw [h.2]
  constructor
  · exact fun h => h.1
  · intro h1
    refine ⟨h1, .inl ?_⟩
    obtain ⟨⟨a, b⟩, c, d⟩ := h1.1.1
    omega
/-- The first w goal entries. -/
def GoM (to : Pt) (ps : List (Stt × Int)) (w : Nat) : Prop := ps.length = w ∧ (ps.map (·.1)).Nodup ∧ ∀ s c, MT ps s = some c ↔ s.1 = to ∧ (0 ≤ s.2 ∧ s.2 < (w : Int)) ∧ c = 0
theorem GoM.zero {to : Pt} : GoM to [] 0 := ⟨rfl, by simp, fun s c => ⟨fun h => by simp [MT] at h, fun ⟨_, h, _⟩ => by omega⟩⟩
theorem GoM.next {to : Pt} {ps : List (Stt × Int)} {w : Nat} (h : GoM to ps w) : GoM to (setM ps (to, (w : Int)) 0) (w + 1) := by
  obtain ⟨h1, h2, h3⟩ := h
  have hno : MT ps (to, (w : Int)) = none := by
    cases e : MT ps (to, (w : Int)) with
    | none => rfl
    | some c => have := ((h3 _ _).1 e).2.1.2; simp only at this; omega
  refine ⟨by rw [setM_len, hno]; simp [h1], ?_, fun s c => ?_⟩
  · rw [setM_keys, hno]
    simp only [Option.isSome_none, Bool.false_eq_true, if_false]
    rw [List.nodup_append]
    refine ⟨h2, by simp, fun a ha b hb e => ?_⟩
    rw [List.mem_singleton.1 hb] at e
    have := MT_mem.2 (e ▸ ha)
    rw [hno] at this; simp at this
  · rw [MT_set]
    by_cases e : s = (to, (w : Int))
    · rw [if_pos e]
      subst e
      exact ⟨fun h => ⟨rfl, ⟨by simp only; omega, by simp only; omega⟩, by cases h; rfl⟩, fun h => by rw [h.2.2]⟩
    · rw [if_neg e, h3]
      constructor
      · rintro ⟨a, b, c⟩; exact ⟨a, by omega, c⟩
      · rintro ⟨a, b, c⟩
        exact ⟨a, ⟨b.1, by have : s.2 ≠ (w : Int) := fun g => e (Prod.ext a g); omega⟩, c⟩
theorem GoM.ok {m : Mz} {to : Pt} {bend : Int} {ps : List (Stt × Int)} (hb : 0 ≤ bend) (ho : OpenAt m to) (h : GoM to ps 5) : MOk m to bend ps := by
  obtain ⟨h1, h2, h3⟩ := h
  refine ⟨h2, ⟨fun s c hs => ?_, fun w h0 h4 => (h3 _ _).2 ⟨rfl, ⟨h0, by simp only; omega⟩, rfl⟩⟩, fun s c hs => ?_, fun s c hs => ?_⟩
  · obtain ⟨e, _, rfl⟩ := (h3 s c).1 hs
    obtain ⟨p, w⟩ := s
    simp only at e
    subst e
    exact .done w
  · obtain ⟨e, ⟨g1, g2⟩, rfl⟩ := (h3 s c).1 hs
    exact ⟨e ▸ ho, g1, by omega⟩
  · obtain ⟨e, _, rfl⟩ := (h3 s c).1 hs
    exact Int.mul_nonneg (by omega) (by omega)
/-- Nothing is to be lowered at the states of a list ahead of this place. -/
def ClX (m : Mz) (bend : Int) (xs : List Stt) (ps : List (Stt × Int)) (a k : Nat) : Prop := ∀ b j, b < xs.length → j < 4 → (b < a ∨ (b = a ∧ j < k)) → OpenAt m (stepTo (xs.getD b ((0, 0), 0)).1 (j : Int)) →
  ∀ c, MT ps (nextS (xs.getD b ((0, 0), 0)) j) = some c → ∃ c0, MT ps (xs.getD b ((0, 0), 0)) = some c0 ∧ c0 ≤ costS m bend (xs.getD b ((0, 0), 0)) j + c
theorem ClX.zero {m : Mz} {bend : Int} {xs : List Stt} {ps : List (Stt × Int)} : ClX m bend xs ps 0 0 := fun b j hb hj h => by omega
theorem ClX.all {m : Mz} {bend : Int} {xs : List Stt} {ps : List (Stt × Int)} (hx : ∀ s, s ∈ xs ↔ SOk m s) (h : ClX m bend xs ps xs.length 0) : TClosed m bend (MT ps) := fun s hs k hk ho c hc => by
  obtain ⟨b, hb, e⟩ := List.mem_iff_getElem.1 ((hx s).2 hs)
  have e' : xs.getD b ((0, 0), 0) = s := by simp [List.getD, hb, e]
  have := h b k hb hk (.inl hb)
  rw [e'] at this
  exact this ho c hc
theorem ClX.a_next {m : Mz} {bend : Int} {xs : List Stt} {ps : List (Stt × Int)} {a : Nat} (h : ClX m bend xs ps a 4) : ClX m bend xs ps (a + 1) 0 := fun b j hb hj hp => h b j hb hj (by omega)
theorem ClX.k_next {m : Mz} {bend : Int} {xs : List Stt} {ps : List (Stt × Int)} {a k : Nat} (h : ClX m bend xs ps a k)
    (hh : OpenAt m (stepTo (xs.getD a ((0, 0), 0)).1 (k : Int)) → ∀ c, MT ps (nextS (xs.getD a ((0, 0), 0)) k) = some c → ∃ c0, MT ps (xs.getD a ((0, 0), 0)) = some c0 ∧ c0 ≤ costS m bend (xs.getD a ((0, 0), 0)) k + c) : ClX m bend xs ps a (k + 1) := fun b j hb hj hp ho c hc => by
  by_cases e : b = a ∧ j = k
  · obtain ⟨rfl, rfl⟩ := e
    exact hh ho c hc
  · exact h b j hb hj (by omega) ho c hc
/-- The place of a sweep: nothing was lowered yet in it, or the sum is less. -/
def SwM (m : Mz) (to : Pt) (bend : Int) (xs : List Stt) (ps0 ps : List (Stt × Int)) (fl : Bool) (a k : Nat) : Prop :=
  MOk m to bend ps ∧ ((fl = false ∧ ps = ps0 ∧ ClX m bend xs ps a k) ∨ (fl = true ∧ potM bend ps < potM bend ps0))
theorem SwM.mono {m : Mz} {to : Pt} {bend : Int} {xs : List Stt} {ps0 ps : List (Stt × Int)} {fl : Bool} {a k a' k' : Nat} (h : SwM m to bend xs ps0 ps fl a k) (hc : ClX m bend xs ps a k → ClX m bend xs ps a' k') : SwM m to bend xs ps0 ps fl a' k' :=
  ⟨h.1, h.2.imp (fun ⟨x, y, c⟩ => ⟨x, y, hc c⟩) id⟩
theorem SwM.put {m : Mz} {to : Pt} {bend : Int} {xs : List Stt} {ps0 ps ps' : List (Stt × Int)} {fl : Bool} {a k a' k' : Nat} (h : SwM m to bend xs ps0 ps fl a k) (h1 : MOk m to bend ps') (h2 : potM bend ps' < potM bend ps) : SwM m to bend xs ps0 ps' true a' k' :=
  ⟨h1, .inr ⟨rfl, by rcases h.2 with ⟨_, e, _⟩ | ⟨_, g⟩
                     · rw [← e]; exact h2
                     · omega⟩⟩
end Go.Proofs.Ytlfhhgfhoddgpaa
end
section
set_option linter.unusedSimpArgs false
set_option linter.unusedVariables false
namespace Go.Proofs.Ytlfhhgfhoddgpaa
open Go.Eng
/-- The letter of a step. -/
def ltrB (k : Nat) : UInt8 := match k with | 0 => 100 | 1 => 108 | 2 => 114 | _ => 117
/-- From there on, the first step that keeps a cheapest way is taken, up to the goal. -/
inductive CW (m : Mz) (to : Pt) (bend : Int) : Stt → List Nat → Prop where
  | done (w : Int) : CW m to bend (to, w) []
  | step {s : Stt} {ks : List Nat} (k : Nat) (hk : k < 4) (hn : s.1 ≠ to) (hg : Good m to bend s k) (hf : ∀ j, j < k → ¬ Good m to bend s j) (h : CW m to bend (nextS s k) ks) : CW m to bend s (k :: ks)
theorem CW.unique {m : Mz} {to : Pt} {bend : Int} {s : Stt} {a b : List Nat} (h : CW m to bend s a) (g : CW m to bend s b) : a = b := by
  induction h generalizing b with
  | done w =>
    cases g with
    | done => rfl
    | step k hk hn => exact absurd rfl hn
  | step k hk hn hg hf h ih =>
    cases g with
    | done => exact absurd rfl hn
    | step k' hk' hn' hg' hf' h' =>
      have e : k = k' := by
        rcases Nat.lt_trichotomy k k' with x | x | x
        · exact absurd hg (hf' k x)
        · exact x
        · exact absurd hg' (hf k' x)
      subst e
      rw [ih h']
/-- A state on the way: its way has a price, and behind these steps it goes on with all that the state's way has. -/
structure CWTo (m : Mz) (to : Pt) (bend : Int) (s0 : Stt) (ks : List Nat) (s : Stt) (c : Int) : Prop where
  ok : SOk m s
  dist : dist m to bend s = some c
  pos : 0 ≤ c
  all : ∀ ks2, CW m to bend s ks2 → CW m to bend s0 (ks ++ ks2)
  vis : ∃ vs : List Stt, vs.length = ks.length ∧ vs.Nodup ∧ ∀ t ∈ vs, SOk m t ∧ ∃ e, Go.Proofs.Ytlfhhgfhoddgpaa.dist m to bend t = some e ∧ c < e
theorem CWTo.start {m : Mz} {to : Pt} {bend : Int} (hb : 0 ≤ bend) {s0 : Stt} {c : Int} (h : SOk m s0) (hd : Go.Proofs.Ytlfhhgfhoddgpaa.dist m to bend s0 = some c) : CWTo m to bend s0 [] s0 c :=
  ⟨h, hd, (dist_iff.1 hd).1.nonneg hb, fun ks2 h => h, [], rfl, by simp, fun t ht => by simp at ht⟩
theorem CWTo.next {m : Mz} {to : Pt} {bend : Int} (hb : 0 ≤ bend) {s0 : Stt} {ks : List Nat} {s : Stt} {c : Int} (h : CWTo m to bend s0 ks s c) {k : Nat} (hk : k < 4) (hn : s.1 ≠ to) (hg : Good m to bend s k) (hf : ∀ j, j < k → ¬ Good m to bend s j) :
    ∃ d, CWTo m to bend s0 (ks ++ [k]) (nextS s k) d ∧ d < c := by
  obtain ⟨d, h1, h2, h3⟩ := hg.less hb h.dist
  refine ⟨d, ⟨SOk.next hk hg.1, h1, h2, fun ks2 h4 => ?_, ?_⟩, h3⟩
  · rw [List.append_assoc]
    exact h.all _ (.step k hk hn hg hf h4)
  · obtain ⟨vs, g1, g2, g3⟩ := h.vis
    refine ⟨vs ++ [s], by simp [g1], ?_, fun t ht => ?_⟩
    · rw [List.nodup_append]
      refine ⟨g2, by simp, fun a ha b hb e => ?_⟩
      rw [List.mem_singleton.1 hb] at e
      obtain ⟨_, e1, e2, e3⟩ := g3 a ha
      rw [e, h.dist] at e2; cases e2; omega
    · rcases List.mem_append.1 ht with ht | ht
      · obtain ⟨q1, e1, e2, e3⟩ := g3 t ht
        exact ⟨q1, e1, e2, by omega⟩
      · rw [List.mem_singleton.1 ht]
        exact ⟨h.ok, c, h.dist, h3⟩
theorem CWTo.len {m : Mz} (hm : MzOk m) {to : Pt} {bend : Int} {s0 : Stt} {ks : List Nat} {s : Stt} {c : Int} (h : CWTo m to bend s0 ks s c) : ks.length ≤ 720 := by
  obtain ⟨vs, g1, g2, g3⟩ := h.vis
  rw [← g1]
  exact states_le hm g2 (fun t ht => (g3 t ht).1)
theorem CWTo.end {m : Mz} {to : Pt} {bend : Int} {s0 : Stt} {ks : List Nat} {s : Stt} {c : Int} (h : CWTo m to bend s0 ks s c) (hn : s.1 = to) : CW m to bend s0 ks := by
  have := h.all [] (by
    obtain ⟨p, w⟩ := s
    simp only at hn
    subst hn
    exact .done w)
  simpa using this
/-- The first of the steps that keep a cheapest way. -/
theorem first_good {m : Mz} {to : Pt} {bend : Int} {s : Stt} {c : Int} (hd : dist m to bend s = some c) (hn : s.1 ≠ to) : ∃ k : Nat, k < 4 ∧ Good m to bend s k ∧ ∀ j, j < k → ¬ Good m to bend s j := by
  obtain ⟨k, hk, hg⟩ := good_some hd hn
  have : ∀ n : Nat, (∃ j, j < n ∧ j < 4 ∧ Good m to bend s j ∧ ∀ i, i < j → ¬ Good m to bend s i) ∨ ∀ j, j < n → ¬ (j < 4 ∧ Good m to bend s j) := by
    intro n
    induction n with
    | zero => exact .inr (fun j hj => by omega)
    | succ n ih =>
      rcases ih with ⟨j, h1, h2⟩ | h
      · exact .inl ⟨j, by omega, h2⟩
      · by_cases g : n < 4 ∧ Good m to bend s n
        · exact .inl ⟨n, by omega, g.1, g.2, fun i hi hgi => h i hi ⟨by omega, hgi⟩⟩
        · refine .inr (fun j hj => ?_)
          rcases Nat.lt_or_ge j n with x | x
          · exact h j x
          · have : j = n := by omega
            subst this; exact g
  rcases this 4 with ⟨j, h1, h2, h3, h4⟩ | h
  · exact ⟨j, h2, h3, h4⟩
  · exact absurd ⟨hk, hg⟩ (h k hk)
/-- A table that is the least costs: what a step's test says. -/
theorem Good.iff {m : Mz} {to : Pt} {bend : Int} {s : Stt} {k : Nat} (ho : OpenAt m (stepTo s.1 (k : Int))) {c : Int} (hd : dist m to bend s = some c) :
    Good m to bend s k ↔ ∃ d, dist m to bend (nextS s k) = some d ∧ costS m bend s k + d = c := by
  constructor
  · rintro ⟨_, c', d, h1, h2, h3⟩
    rw [hd] at h1; cases h1
    exact ⟨d, h2, h3⟩
  · rintro ⟨d, h2, h3⟩
    exact ⟨ho, c, d, hd, h2, h3⟩
/-- What is asked of the arguments. -/
def AskC (m : Mz) (p q : Pt) (bend : Int) : Prop := MzOk m ∧ OpenAt m p ∧ OpenAt m q ∧ 0 ≤ bend ∧ bend ≤ 1000000000
/-- Bytes as numbers. -/
def bI (bs : List UInt8) : List Int := bs.map fun b => (b.toNat : Int)
theorem bI_len (bs : List UInt8) : (bI bs).length = bs.length := by simp [bI]
theorem bytes_back (bs : List UInt8) : (List.map (fun n : Int => UInt8.ofNat n.toNat) (bI bs)) = bs := by
  unfold bI
  rw [List.map_map]
  conv => rhs; rw [← List.map_id bs]
  refine List.map_congr_left fun b _ => ?_
  simp
theorem bI_rng (bs : List UInt8) : ∀ n ∈ bI bs, 0 ≤ n ∧ n < 256 := fun n hn => by
  obtain ⟨b, _, rfl⟩ := List.mem_map.1 hn
  have := b.toNat_lt
  omega
/-- The letters of steps. -/
def ltrs (ks : List Nat) : List UInt8 := ks.map ltrB
theorem ltrs_snoc (ks : List Nat) (k : Nat) : bI (ltrs (ks ++ [k])) = bI (ltrs ks) ++ [((ltrB k).toNat : Int)] := by simp [bI, ltrs]
theorem ltrs_len (ks : List Nat) : (ltrs ks).length = ks.length := by simp [ltrs]
theorem AC.lentEy {ι : Type} {F F' : ι → AVal} {N : ι → List ABox} {Φ : ι → Prop} {f : FuncId} {args args' : List AVal} {H : List ABox} (hF : ∀ x, F x = F' x) (ha : LentL H args args') (hX : ∀ x, Φ x → NoRd (F x)) (hnew : ∀ x, Φ x → ∀ Z ∈ N x, NoRdW Z)
    (h : AC Try.prog f args' (killAll H) (fun r H' => ∃ x, Φ x ∧ r = F x ∧ H' = killAll H ++ N x)) : AC Try.prog f args H (fun r H' => ∃ x, Φ x ∧ r = F' x ∧ H' = H ++ N x) :=
  (AC.lentE ha hX hnew h).mono fun r H' ⟨x, h1, h2, h3⟩ => ⟨x, h1, h2.trans (hF x), h3⟩
theorem vCall_exY {ι : Type} {Φ : ι → Prop} {F : ι → AVal} {Nw : ι → List ABox} {f : FuncId} {args : List AVal} {N : Nat} {s : List (Nat × AVal)} {b l : List ABox} {k : AVal → List ABox → List ABox → Prop}
    (h : AC Try.prog f args (b ++ l) (fun r H' => ∃ x, Φ x ∧ r = F x ∧ H' = (b ++ l) ++ Nw x)) (hk : ∀ x, Φ x → k (F x) b (l ++ Nw x)) : vCall Try.prog (.fn f []) args ⟨N, s, b, l⟩ k := by
  show AC Try.prog f (args ++ []) (b ++ l) _
  rw [List.append_nil]
  exact h.mono fun r H' ⟨x, h1, h2, h3⟩ => ⟨b, l ++ Nw x, by rw [h3, List.append_assoc], rfl, h2 ▸ hk x h1⟩
noncomputable instance {m : Mz} {p q : Pt} {bend : Int} : Decidable (AskC m p q bend) := by unfold AskC; infer_instance
/-- What the cheapest way is. -/
inductive ResC (m : Mz) (p q : Pt) (bend : Int) : List UInt8 → Int → Bool → Prop where
  | bad (h : ¬ AskC m p q bend) : ResC m p q bend [] 0 false
  | none (h : AskC m p q bend) (hd : dist m q bend (p, 4) = none) : ResC m p q bend [] 0 false
  | some (h : AskC m p q bend) {c : Int} {ks : List Nat} (hd : dist m q bend (p, 4) = some c) (hc : 0 ≤ c) (hw : CW m q bend (p, 4) ks) : ResC m p q bend (ltrs ks) c true
theorem ResC.unique {m : Mz} {p q : Pt} {bend : Int} {l l' : List UInt8} {c c' : Int} {b b' : Bool} (h : ResC m p q bend l c b) (g : ResC m p q bend l' c' b') : l = l' ∧ c = c' ∧ b = b' := by
  cases h with
  | bad h =>
    cases g with
    | bad g => exact ⟨rfl, rfl, rfl⟩
    | none g hd => exact absurd g h
    | some g hd hc hw => exact absurd g h
  | none h hd =>
    cases g with
    | bad g => exact absurd h g
    | none g hd' => exact ⟨rfl, rfl, rfl⟩
    | some g hd' hc hw => rw [hd] at hd'; cases hd'
  | some h hd hc hw =>
    cases g with
    | bad g => exact absurd h g
    | none g hd' => rw [hd] at hd'; cases hd'
    | some g hd' hc' hw' =>
      rw [hd] at hd'; cases hd'
      exact ⟨by rw [hw.unique hw'], rfl, rfl⟩
end Go.Proofs.Ytlfhhgfhoddgpaa
end
section
set_option linter.unusedSimpArgs false
set_option linter.unusedVariables false
namespace Go.Proofs.Ytlfhhgfhoddgpaa
open Go.Eng
/-- The text of a way. -/
def strK (ks : List Nat) : ByteArray := ⟨(ltrs ks).toArray⟩
/-- Where it ends. -/
def endK (f : Pt) (ks : List Nat) : Pt := ks.foldl (fun p (k : Nat) => stepTo p (k : Int)) f
theorem endK_snoc (f : Pt) (ks : List Nat) (k : Nat) : endK f (ks ++ [k]) = stepTo (endK f ks) (k : Int) := by simp [endK]
theorem take_snoc' {ks : List Nat} {i : Nat} (h : i < ks.length) : ks.take (i + 1) = ks.take i ++ [ks.getD i 0] := by
  rw [List.take_add_one]; simp [List.getD, h]
/-- All of its cells but the first one are open. -/
def WayK (m : Mz) (f : Pt) (ks : List Nat) : Prop := ∀ i, i < ks.length → ks.getD i 0 < 4 ∧ OpenAt m (endK f (ks.take (i + 1)))
theorem WayK.nil {m : Mz} {f : Pt} : WayK m f [] := fun i h => by simp at h
theorem WayK.snoc {m : Mz} {f : Pt} {ks : List Nat} (h : WayK m f ks) {k : Nat} (hk : k < 4) (ho : OpenAt m (stepTo (endK f ks) (k : Int))) : WayK m f (ks ++ [k]) := fun i hi => by
  by_cases e : i < ks.length
  · have := h i e
    rw [show (ks ++ [k]).getD i 0 = ks.getD i 0 by simp [List.getD, List.getElem?_append_left e], List.take_append_of_le_length (by omega)]
    exact this
  · have : i = ks.length := by simp at hi; omega
    subst this
    rw [show (ks ++ [k]).getD ks.length 0 = k by simp [List.getD], List.take_of_length_le (by simp), endK_snoc]
    exact ⟨hk, ho⟩
theorem WayK.take {m : Mz} {f : Pt} {ks : List Nat} (h : WayK m f ks) (n : Nat) : WayK m f (ks.take n) := fun i hi => by
  have hi' : i < n ∧ i < ks.length := by rw [List.length_take] at hi; omega
  have := h i hi'.2
  rw [show (ks.take n).getD i 0 = ks.getD i 0 by simp [List.getD, List.getElem?_take, hi'.1], List.take_take, show min (i + 1) n = i + 1 by omega]
  exact this
theorem WayK.end {m : Mz} {f : Pt} {ks : List Nat} (h : WayK m f ks) (hf : OpenAt m f) : OpenAt m (endK f ks) := by
  by_cases e : ks.length = 0
  · have : ks = [] := List.eq_nil_of_length_eq_zero e
    subst this; exact hf
  · have := (h (ks.length - 1) (by omega)).2
    rwa [show ks.length - 1 + 1 = ks.length by omega, List.take_length] at this
/-- Its first cells. -/
def cellsK (f : Pt) (ks : List Nat) (n : Nat) : List Pt := (List.range (n + 1)).map fun i => endK f (ks.take i)
theorem cellsK_get (f : Pt) (ks : List Nat) {n i : Nat} (h : i ≤ n) : (cellsK f ks n).getD i (0, 0) = endK f (ks.take i) := by
  have : i < n + 1 := by omega
  simp [cellsK, List.getD, this]
theorem cellsK_succ (f : Pt) (ks : List Nat) (n : Nat) : cellsK f ks (n + 1) = cellsK f ks n ++ [endK f (ks.take (n + 1))] := by
  simp [cellsK, List.range_succ (n := n + 1)]
theorem strK_size (ks : List Nat) : (strK ks).size = ks.length := by
  show (ltrs ks).toArray.size = _
  simp [ltrs]
theorem byteAt_strK {ks : List Nat} {i : Nat} (h : i < ks.length) : byteAt (strK ks) i = ((ltrB (ks.getD i 0)).toNat : Int) := by
  unfold byteAt strK ltrs
  simp [List.getD, h]
theorem letter_ltrB {k : Nat} (h : k < 4) : letter ((ltrB k).toNat : Int) = (k : Int) := by
  match k, h with
  | 0, _ => rfl
  | 1, _ => rfl
  | 2, _ => rfl
  | 3, _ => rfl
theorem wayTo_K {m : Mz} {f : Pt} {ks : List Nat} (h : WayK m f ks) : ∀ i, i ≤ ks.length → wayTo m f (strK ks) i = some (cellsK f ks i)
  | 0, _ => rfl
  | i + 1, hi => by
    have hi' : i < ks.length := by omega
    have ih := wayTo_K h i (by omega)
    obtain ⟨h1, h2⟩ := h i hi'
    have hst : stepTo ((cellsK f ks i).getD i (0, 0)) (letter (byteAt (strK ks) i)) = endK f (ks.take (i + 1)) := by
      rw [cellsK_get f ks (Nat.le_refl _), byteAt_strK hi', letter_ltrB h1, take_snoc' hi', endK_snoc]
    unfold wayTo
    rw [ih]
    simp only
    rw [hst, if_pos ⟨by rw [byteAt_strK hi', letter_ltrB h1]; omega, h2⟩, cellsK_succ]
theorem wayOf_K {m : Mz} {f : Pt} {ks : List Nat} (h : WayK m f ks) : wayOf m f (strK ks) = some (cellsK f ks ks.length) := by
  unfold wayOf
  rw [strK_size]
  exact wayTo_K h _ (Nat.le_refl _)
/-- The state in which it ends. -/
def stK (f : Pt) (ks : List Nat) : Stt := (endK f ks, if ks.length = 0 then 4 else ((ks.getD (ks.length - 1) 0 : Nat) : Int))
theorem stK_snoc (f : Pt) (ks : List Nat) (k : Nat) : stK f (ks ++ [k]) = nextS (stK f ks) k := by
  unfold stK nextS
  rw [endK_snoc, if_neg (by simp)]
  simp [List.getD]
/-- What its first steps cost. -/
def costK (m : Mz) (bend : Int) (f : Pt) (ks : List Nat) : Nat → Int
  | 0 => 0
  | i + 1 => costK m bend f ks i + costS m bend (stK f (ks.take i)) (ks.getD i 0)
theorem priceTo_K {m : Mz} {bend : Int} {f : Pt} {ks : List Nat} (h : WayK m f ks) {n : Nat} (hn : n ≤ ks.length) : ∀ i, i ≤ n → priceTo m (cellsK f ks n) (strK ks) bend i = costK m bend f ks i
  | 0, _ => rfl
  | i + 1, hi => by
    have ih := priceTo_K (bend := bend) h hn i (by omega)
    have hi' : i < ks.length := by omega
    have hk := (h i hi').1
    show priceTo m (cellsK f ks n) (strK ks) bend i + cell m ((cellsK f ks n).getD (i + 1) (0, 0)) + (if 0 < i ∧ byteAt (strK ks) i ≠ byteAt (strK ks) (i - 1) then bend else 0) = costK m bend f ks i + costS m bend (stK f (ks.take i)) (ks.getD i 0)
    have htl : (ks.take i).length = i := by simp; omega
    have hend : endK f (ks.take (i + 1)) = stepTo (endK f (ks.take i)) ((ks.getD i 0 : Nat) : Int) := by rw [take_snoc' hi', endK_snoc]
    rw [ih, cellsK_get f ks hi, hend]
    unfold costS
    by_cases h0 : i = 0
    · rw [if_neg (by omega), if_neg (by unfold stK; rw [htl, if_pos h0]; simp)]
      subst h0
      show _ + cell m (stepTo (stK f (ks.take 0)).1 _) + 0 = _
      omega
    · have hp : i - 1 < ks.length := by omega
      have hkp := (h (i - 1) hp).1
      have hl2 : (stK f (ks.take i)).2 = ((ks.getD (i - 1) 0 : Nat) : Int) := by
        unfold stK
        rw [htl, if_neg h0]
        simp only
        rw [show (ks.take i).getD (i - 1) 0 = ks.getD (i - 1) 0 by simp [List.getD, List.getElem?_take, show i - 1 < i by omega]]
      have hinj : byteAt (strK ks) i ≠ byteAt (strK ks) (i - 1) ↔ ks.getD (i - 1) 0 ≠ ks.getD i 0 := by
        constructor
        · intro hne e
          apply hne
          rw [byteAt_strK hi', byteAt_strK hp, e]
        · intro hne e
          apply hne
          have := congrArg letter e
          rw [byteAt_strK hi', byteAt_strK hp, letter_ltrB hk, letter_ltrB hkp] at this
          omega
      rw [hl2]
      show _ + cell m (stepTo (stK f (ks.take i)).1 _) + _ = _
      by_cases hb : ks.getD (i - 1) 0 = ks.getD i 0
      · rw [if_neg (fun h => (hinj.1 h.2) hb), if_neg (fun h => h.2 (by omega))]
        omega
      · rw [if_pos ⟨by omega, hinj.2 hb⟩, if_pos ⟨by omega, fun e => hb (by omega)⟩]
        omega
end Go.Proofs.Ytlfhhgfhoddgpaa
end
section
set_option linter.unusedSimpArgs false
set_option linter.unusedVariables false
namespace Go.Proofs.Ytlfhhgfhoddgpaa
open Go.Eng
/-- The sum over the first steps that keep a cheapest way, as the machine adds. -/
noncomputable def gsum (m : Mz) (to : Pt) (bend : Int) (F : Stt → Int) (s : Stt) : Nat → Int
  | 0 => 0
  | k + 1 => open Classical in if Good m to bend s k then IntKind.i64.wrap (gsum m to bend F s k + F (nextS s k)) else gsum m to bend F s k
theorem gsum_congr {m : Mz} {to : Pt} {bend : Int} {F G : Stt → Int} {s : Stt} : ∀ n : Nat, (∀ k, k < n → Good m to bend s k → F (nextS s k) = G (nextS s k)) → gsum m to bend F s n = gsum m to bend G s n
  | 0, _ => rfl
  | n + 1, h => by
    have ih := gsum_congr n (fun k hk hg => h k (by omega) hg)
    unfold gsum
    split
    · rename_i hg
      rw [ih, h n (by omega) hg]
    · exact ih
theorem gsum_yes {m : Mz} {to : Pt} {bend : Int} {F : Stt → Int} {s : Stt} {k : Nat} (h : Good m to bend s k) : gsum m to bend F s (k + 1) = IntKind.i64.wrap (gsum m to bend F s k + F (nextS s k)) := by
  rw [gsum, if_pos h]
theorem gsum_no {m : Mz} {to : Pt} {bend : Int} {F : Stt → Int} {s : Stt} {k : Nat} (h : ¬ Good m to bend s k) : gsum m to bend F s (k + 1) = gsum m to bend F s k := by
  rw [gsum, if_neg h]
noncomputable def cntF (m : Mz) (to : Pt) (bend : Int) : Nat → Stt → Int
  | 0, _ => 0
  | n + 1, s => if s.1 = to then 1 else gsum m to bend (cntF m to bend n) s 4
theorem cntF_stable {m : Mz} {to : Pt} {bend : Int} (hb : 0 ≤ bend) : ∀ (n n' : Nat) (s : Stt) (c : Int), dist m to bend s = some c → c < n → c < n' → cntF m to bend n s = cntF m to bend n' s
  | 0, n', s, c, hd, h, h' => by
    have := (dist_iff.1 hd).1.nonneg hb
    omega
  | n + 1, 0, s, c, hd, h, h' => by
    have := (dist_iff.1 hd).1.nonneg hb
    omega
  | n + 1, n' + 1, s, c, hd, h, h' => by
    unfold cntF
    split
    · rfl
    · refine gsum_congr 4 (fun k hk hg => ?_)
      obtain ⟨d, h1, h2, h3⟩ := hg.less hb hd
      exact cntF_stable hb n n' _ d h1 (by omega) (by omega)
/-- The number of cheapest ways from there on, as the machine counts. -/
noncomputable def cntW (m : Mz) (to : Pt) (bend : Int) (s : Stt) : Int := cntF m to bend (((dist m to bend s).getD 0).toNat + 1) s
theorem cntW_goal {m : Mz} {to : Pt} {bend : Int} {s : Stt} (h : s.1 = to) : cntW m to bend s = 1 := by
  unfold cntW cntF
  rw [if_pos h]
theorem cntW_eq {m : Mz} {to : Pt} {bend : Int} (hb : 0 ≤ bend) {s : Stt} {c : Int} (hd : dist m to bend s = some c) (hn : s.1 ≠ to) : cntW m to bend s = gsum m to bend (cntW m to bend) s 4 := by
  have hc := (dist_iff.1 hd).1.nonneg hb
  unfold cntW
  rw [hd]
  show cntF m to bend (c.toNat + 1) s = _
  rw [cntF, if_neg hn]
  refine gsum_congr 4 (fun k hk hg => ?_)
  obtain ⟨d, h1, h2, h3⟩ := hg.less hb hd
  show cntF m to bend c.toNat (nextS s k) = cntF m to bend (((dist m to bend (nextS s k)).getD 0).toNat + 1) (nextS s k)
  rw [h1]
  exact cntF_stable hb _ _ _ d h1 (by omega) (by simp only [Option.getD_some]; omega)
/-- What the count is. -/
inductive ResN (m : Mz) (p q : Pt) (bend : Int) : Int → Bool → Prop where
  | bad (h : ¬ AskC m p q bend) : ResN m p q bend 0 false
  | none (h : AskC m p q bend) (hd : dist m q bend (p, 4) = none) : ResN m p q bend 0 false
  | some (h : AskC m p q bend) {c : Int} (hd : dist m q bend (p, 4) = some c) : ResN m p q bend (cntW m q bend (p, 4)) true
theorem ResN.unique {m : Mz} {p q : Pt} {bend : Int} {c c' : Int} {b b' : Bool} (h : ResN m p q bend c b) (g : ResN m p q bend c' b') : c = c' ∧ b = b' := by
  cases h with
  | bad h =>
    cases g with
    | bad g => exact ⟨rfl, rfl⟩
    | none g hd => exact ⟨rfl, rfl⟩
    | some g hd => exact absurd g h
  | none h hd =>
    cases g with
    | bad g => exact absurd h g
    | none g hd' => exact ⟨rfl, rfl⟩
    | some g hd' => rw [hd] at hd'; cases hd'
  | some h hd =>
    cases g with
    | bad g => exact absurd h g
    | none g hd' => rw [hd] at hd'; cases hd'
    | some g hd' => exact ⟨rfl, rfl⟩
/-! ### The reference's sweep: the least of the states not done yet -/
/-- The state with a number. -/
def stAt (m : Mz) (i : Nat) : Stt := (cellAt m (i / 5), ((i % 5 : Nat) : Int))
theorem stAt_sx {m : Mz} {i : Nat} (h : i < 5 * (m.length * width m)) : SIn m (stAt m i) ∧ sx m (stAt m i) = i := by
  have h1 : i / 5 < m.length * width m := by omega
  refine ⟨⟨(cellAt_in h1).1, by show (0 : Int) ≤ ((i % 5 : Nat) : Int); omega, by show ((i % 5 : Nat) : Int) ≤ 4; omega⟩, ?_⟩
  unfold stAt
  rw [sx_cell (w := i % 5) h1]
  omega
theorem stAt_of {m : Mz} {s : Stt} (h : SIn m s) : stAt m (sx m s) = s := by
  have hlt := sx_lt h
  have := stAt_sx hlt
  exact sx_inj this.1 h this.2
/-- What was done is right; what was not is naught. -/
structure CtOk (m : Mz) (to : Pt) (bend : Int) (L W : List Int) (D : List Bool) : Prop where
  wl : W.length = 5 * (m.length * width m)
  dl : D.length = 5 * (m.length * width m)
  yes : ∀ i, i < 5 * (m.length * width m) → D.getD i false = true → W.getD i 0 = cntW m to bend (stAt m i)
  no : ∀ i, i < 5 * (m.length * width m) → D.getD i false = false → W.getD i 0 = 0
/-- The least of the first so many states that are not done. -/
def MinTo (L : List Int) (D : List Bool) (i : Nat) (a : Int) : Prop :=
  (a = -1 ∧ ∀ j, j < i → D.getD j false = false → L.getD j 0 < 0) ∨
  (0 ≤ a ∧ a < i ∧ D.getD a.toNat false = false ∧ 0 ≤ L.getD a.toNat 0 ∧ ∀ j, j < i → D.getD j false = false → 0 ≤ L.getD j 0 → L.getD a.toNat 0 ≤ L.getD j 0)
theorem MinTo.zero {L : List Int} {D : List Bool} : MinTo L D 0 (-1) := .inl ⟨rfl, fun j h => by omega⟩
theorem MinTo.skip {L : List Int} {D : List Bool} {i : Nat} {a : Int} (h : MinTo L D i a) (hs : D.getD i false = true ∨ L.getD i 0 < 0 ∨ (0 ≤ a ∧ L.getD a.toNat 0 ≤ L.getD i 0)) : MinTo L D (i + 1) a := by
  rcases h with ⟨h1, h2⟩ | ⟨h1, h2, h3, h4, h5⟩
  · refine .inl ⟨h1, fun j hj hd => ?_⟩
    by_cases e : j = i
    · subst e
      rcases hs with g | g | g
      · rw [hd] at g; cases g
      · exact g
      · omega
    · exact h2 j (by omega) hd
  · refine .inr ⟨h1, by omega, h3, h4, fun j hj hd hl => ?_⟩
    by_cases e : j = i
    · subst e
      rcases hs with g | g | g
      · rw [hd] at g; cases g
      · omega
      · exact g.2
    · exact h5 j (by omega) hd hl
theorem MinTo.take {L : List Int} {D : List Bool} {i : Nat} {a : Int} (h : MinTo L D i a) (hd : D.getD i false = false) (hl : 0 ≤ L.getD i 0) (hs : a < 0 ∨ L.getD i 0 < L.getD a.toNat 0) : MinTo L D (i + 1) (i : Int) := by
  refine .inr ⟨by omega, by omega, by simpa using hd, by simpa using hl, fun j hj hdj hlj => ?_⟩
  rw [Int.toNat_natCast]
  by_cases e : j = i
  · subst e; exact Int.le_refl _
  · rcases h with ⟨h1, h2⟩ | ⟨h1, h2, h3, h4, h5⟩
    · have := h2 j (by omega) hdj
      omega
    · have := h5 j (by omega) hdj hlj
      omega
theorem getB_setE {D : List Bool} {i : Nat} {v : Bool} (h : i < D.length) : (D.set i v).getD i false = v := by simp [List.getD, h]
theorem getB_setN {D : List Bool} {i j : Nat} {v : Bool} (h : i ≠ j) : (D.set i v).getD j false = D.getD j false := by
  simp only [List.getD]; rw [List.getElem?_set_ne h]
theorem CtOk.start (m : Mz) (to : Pt) (bend : Int) (L : List Int) : CtOk m to bend L (List.replicate (5 * (m.length * width m)) 0) (List.replicate (5 * (m.length * width m)) false) := by
  refine ⟨by simp, by simp, fun i hi h => ?_, fun i hi h => ?_⟩
  · simp [List.getD, hi] at h
  · simp [List.getD, hi]
theorem CtOk.put {m : Mz} {to : Pt} {bend : Int} {L W : List Int} {D : List Bool} (h : CtOk m to bend L W D) {j : Nat} (hj : j < 5 * (m.length * width m)) {v : Int} (hv : v = cntW m to bend (stAt m j)) : CtOk m to bend L (W.set j v) (D.set j true) := by
  refine ⟨by rw [List.length_set]; exact h.wl, by rw [List.length_set]; exact h.dl, fun i hi hd => ?_, fun i hi hd => ?_⟩
  · by_cases e : j = i
    · subst e
      rw [getD_setE (by rw [h.wl]; exact hj), hv]
    · rw [getD_setN e]
      rw [getB_setN e] at hd
      exact h.yes i hi hd
  · by_cases e : j = i
    · subst e
      rw [getB_setE (by rw [h.dl]; exact hj)] at hd
      cases hd
    · rw [getD_setN e]
      rw [getB_setN e] at hd
      exact h.no i hi hd
/-- The least state that is not done: all that lead on from it are done. -/
theorem MinTo.next {m : Mz} {to : Pt} {bend : Int} (hb : 0 ≤ bend) {L W : List Int} {D : List Bool} (hL : LOk m to bend L) (hcl : TClosed m bend (LT m L)) (hC : CtOk m to bend L W D) {j : Nat} (hj : j < 5 * (m.length * width m)) (hmin : MinTo L D (5 * (m.length * width m)) (j : Int))
    {k : Nat} (hk : k < 4) (hg : Good m to bend (stAt m j) k) : sx m (nextS (stAt m j) k) ≠ j ∧ W.getD (sx m (nextS (stAt m j) k)) 0 = cntW m to bend (nextS (stAt m j) k) := by
  rcases hmin with ⟨h, _⟩ | ⟨_, _, h3, h4, h5⟩
  · omega
  rw [Int.toNat_natCast] at h3 h4 h5
  obtain ⟨hin, hsx⟩ := stAt_sx hj
  obtain ⟨ho, c, d, e1, e2, e3⟩ := hg
  have hcp := costS_pos hb ho
  have hsn : SOk m (nextS (stAt m j) k) := SOk.next hk ho
  have hlt := sx_lt hsn.inn
  have hT : ∀ t, SOk m t → LT m L t = dist m to bend t := fun t ht => hL.tab.dist hcl ht
  have hj1 : LT m L (stAt m j) = some (L.getD j 0) := LT_some.2 ⟨hin, by rw [hsx]; exact h4, by rw [hsx]⟩
  have hjo := hL.dom _ _ hj1
  rw [hT _ hjo, e1] at hj1
  have hcj : c = L.getD j 0 := by cases hj1; rfl
  have hn1 := hT _ hsn
  rw [e2] at hn1
  obtain ⟨_, hn2, hn3⟩ := LT_some.1 hn1
  refine ⟨fun e => ?_, ?_⟩
  · rw [e] at hn3; omega
  · have hdone : D.getD (sx m (nextS (stAt m j) k)) false = true := by
      cases e : D.getD (sx m (nextS (stAt m j) k)) false with
      | true => rfl
      | false => have := h5 _ hlt e hn2; omega
    rw [hC.yes _ hlt hdone, stAt_of hsn.inn]
end Go.Proofs.Ytlfhhgfhoddgpaa
end
section
set_option linter.unusedSimpArgs false
set_option linter.unusedVariables false
namespace Go.Proofs.Ytlfhhgfhoddgpaa
open Go.Eng
/-! ### Ways from a state on -/
def costF (m : Mz) (bend : Int) : Stt → List Nat → Int
  | _, [] => 0
  | s, k :: r => costS m bend s k + costF m bend (nextS s k) r
def endF : Stt → List Nat → Stt
  | s, [] => s
  | s, k :: r => endF (nextS s k) r
def OpenF (m : Mz) : Stt → List Nat → Prop
  | _, [] => True
  | s, k :: r => (k < 4 ∧ OpenAt m (stepTo s.1 (k : Int))) ∧ OpenF m (nextS s k) r
theorem OpenF.path {m : Mz} {to : Pt} {bend : Int} : ∀ {ks : List Nat} {s : Stt}, OpenF m s ks → (endF s ks).1 = to → PathC m to bend s (costF m bend s ks)
  | [], s, _, h => by
    obtain ⟨p, w⟩ := s
    simp only [endF] at h
    subst h
    exact .done w
  | k :: r, s, h, he => .step k h.1.1 h.1.2 (h.2.path he)
theorem PathC.ways {m : Mz} {to : Pt} {bend : Int} {s : Stt} {c : Int} (h : PathC m to bend s c) : ∃ ks, OpenF m s ks ∧ (endF s ks).1 = to ∧ costF m bend s ks = c := by
  induction h with
  | done w => exact ⟨[], trivial, rfl, rfl⟩
  | step k hk ho h ih =>
    obtain ⟨ks, h1, h2, h3⟩ := ih
    exact ⟨k :: ks, ⟨⟨hk, ho⟩, h1⟩, h2, by rw [← h3]; rfl⟩
theorem endF_snoc (s : Stt) (a : List Nat) (k : Nat) : endF s (a ++ [k]) = nextS (endF s a) k := by
  induction a generalizing s with
  | nil => rfl
  | cons x r ih => exact ih (nextS s x)
theorem costF_snoc (m : Mz) (bend : Int) (s : Stt) (a : List Nat) (k : Nat) : costF m bend s (a ++ [k]) = costF m bend s a + costS m bend (endF s a) k := by
  induction a generalizing s with
  | nil => show costS m bend s k + 0 = 0 + costS m bend s k; omega
  | cons x r ih =>
    show costS m bend s x + costF m bend (nextS s x) (r ++ [k]) = costS m bend s x + costF m bend (nextS s x) r + costS m bend (endF (nextS s x) r) k
    rw [ih]; omega
theorem OpenF_snoc {m : Mz} {s : Stt} {a : List Nat} {k : Nat} : OpenF m s (a ++ [k]) ↔ OpenF m s a ∧ k < 4 ∧ OpenAt m (stepTo (endF s a).1 (k : Int)) := by
  induction a generalizing s with
  | nil => exact ⟨fun h => ⟨trivial, h.1⟩, fun h => ⟨h.2, trivial⟩⟩
  | cons x r ih =>
    show (_ ∧ OpenF m (nextS s x) (r ++ [k])) ↔ (_ ∧ OpenF m (nextS s x) r) ∧ _
    rw [ih]
    constructor
    · rintro ⟨a, b, c⟩; exact ⟨⟨a, b⟩, c⟩
    · rintro ⟨⟨a, b⟩, c⟩; exact ⟨a, b, c⟩
theorem endF_stK (f : Pt) (ks : List Nat) (i : Nat) (h : i ≤ ks.length) : endF (f, 4) (ks.take i) = stK f (ks.take i) := by
  induction i with
  | zero => rfl
  | succ i ih => rw [take_snoc' (by omega), endF_snoc, ih (by omega), stK_snoc]
theorem costF_K (m : Mz) (bend : Int) (f : Pt) (ks : List Nat) (i : Nat) (h : i ≤ ks.length) : costF m bend (f, 4) (ks.take i) = costK m bend f ks i := by
  induction i with
  | zero => rfl
  | succ i ih => rw [take_snoc' (by omega), costF_snoc, ih (by omega), endF_stK f ks i (by omega)]; rfl
theorem WayK.openF {m : Mz} {f : Pt} {ks : List Nat} (h : WayK m f ks) : ∀ i, i ≤ ks.length → OpenF m (f, 4) (ks.take i)
  | 0, _ => trivial
  | i + 1, hi => by
    rw [take_snoc' (by omega), OpenF_snoc, endF_stK f ks i (by omega)]
    have := h i (by omega)
    rw [take_snoc' (by omega), endK_snoc] at this
    exact ⟨h.openF i (by omega), this⟩
theorem OpenF.wayK {m : Mz} {f : Pt} {ks : List Nat} (h : ∀ i, i ≤ ks.length → OpenF m (f, 4) (ks.take i)) : WayK m f ks := fun i hi => by
  have := h (i + 1) (by omega)
  rw [take_snoc' hi, OpenF_snoc, endF_stK f ks i (by omega)] at this
  rw [take_snoc' hi, endK_snoc]
  exact this.2
theorem OpenF.take {m : Mz} : ∀ {ks : List Nat} {s : Stt}, OpenF m s ks → ∀ i, OpenF m s (ks.take i)
  | [], s, _, i => by simp [OpenF]
  | k :: r, s, h, 0 => trivial
  | k :: r, s, h, i + 1 => ⟨h.1, h.2.take i⟩
theorem wayK_iff {m : Mz} {f : Pt} {ks : List Nat} : WayK m f ks ↔ OpenF m (f, 4) ks :=
  ⟨fun h => by have := h.openF ks.length (Nat.le_refl _); rwa [List.take_length] at this, fun h => OpenF.wayK (fun i _ => h.take i)⟩
theorem endF_K (f : Pt) (ks : List Nat) : (endF (f, 4) ks).1 = endK f ks := by
  have := endF_stK f ks ks.length (Nat.le_refl _)
  rw [List.take_length] at this
  rw [this]; rfl
theorem costF_all (m : Mz) (bend : Int) (f : Pt) (ks : List Nat) : costF m bend (f, 4) ks = costK m bend f ks ks.length := by
  have := costF_K m bend f ks ks.length (Nat.le_refl _)
  rwa [List.take_length] at this
/-- The way that takes each first step that keeps it cheapest. -/
theorem CW.way {m : Mz} {to : Pt} {bend : Int} (hb : 0 ≤ bend) {s : Stt} {ks : List Nat} (h : CW m to bend s ks) : ∀ c, dist m to bend s = some c → OpenF m s ks ∧ (endF s ks).1 = to ∧ costF m bend s ks = c := by
  induction h with
  | done w =>
    intro c hd
    exact ⟨trivial, rfl, (LeastC.goal hb w).unique (dist_iff.1 hd)⟩
  | step k hk hn hg hf h ih =>
    intro c hd
    obtain ⟨ho, c1, d, e1, e2, e3⟩ := hg
    rw [hd] at e1; cases e1
    obtain ⟨i1, i2, i3⟩ := ih d e2
    exact ⟨⟨⟨hk, ho⟩, i1⟩, i2, by show costS m bend _ k + _ = c; rw [i3]; exact e3⟩
/-- A step of a cheapest way is good, and the rest is cheapest. -/
theorem good_of {m : Mz} {to : Pt} {bend : Int} {s : Stt} {k : Nat} {r : List Nat} {c : Int} (hd : dist m to bend s = some c) (ho : OpenF m s (k :: r)) (he : (endF s (k :: r)).1 = to) (hc : costF m bend s (k :: r) = c) :
    Good m to bend s k ∧ dist m to bend (nextS s k) = some (costF m bend (nextS s k) r) := by
  have hp := ho.2.path (bend := bend) he
  have hl := dist_iff.1 hd
  have hdn : dist m to bend (nextS s k) = some (costF m bend (nextS s k) r) := dist_iff.2 ⟨hp, fun c' h' => by
    have := hl.2 _ (.step k ho.1.1 ho.1.2 h')
    have e : costF m bend s (k :: r) = costS m bend s k + costF m bend (nextS s k) r := rfl
    omega⟩
  exact ⟨⟨ho.1.2, c, _, hd, hdn, hc⟩, hdn⟩
theorem ltrB_lt {a b : Nat} (ha : a < b) (hb : b < 4) : ltrB a < ltrB b := by
  match a, b, ha, hb with
  | 0, 1, _, _ => decide
  | 0, 2, _, _ => decide
  | 0, 3, _, _ => decide
  | 1, 2, _, _ => decide
  | 1, 3, _, _ => decide
  | 2, 3, _, _ => decide
  | n + 3, b, h1, h2 => omega
/-- No cheapest way comes before it in the order of texts. -/
theorem CW.first {m : Mz} {to : Pt} {bend : Int} {s : Stt} {ks : List Nat} (h : CW m to bend s ks) : ∀ c, dist m to bend s = some c → ∀ os, OpenF m s os → (endF s os).1 = to → costF m bend s os = c → Op.bytesLess (ltrs os) (ltrs ks) = false := by
  induction h with
  | done w => intro c _ os _ _ _; cases os <;> rfl
  | @step s ks k hk hn hg hf h ih =>
    intro c hd os ho he hc
    cases os with
    | nil => exact absurd he hn
    | cons k0 r0 =>
      obtain ⟨g0, d0⟩ := good_of hd ho he hc
      have hle : k ≤ k0 := by
        rcases Nat.lt_or_ge k0 k with x | x
        · exact absurd g0 (hf k0 x)
        · exact x
      show Op.bytesLess (ltrB k0 :: ltrs r0) (ltrB k :: ltrs ks) = false
      unfold Op.bytesLess
      by_cases e : k = k0
      · subst e
        have hi := ih _ d0 r0 ho.2 he rfl
        have h1 : ¬ ltrB k < ltrB k := by
          show ¬ (ltrB k).toNat < (ltrB k).toNat
          omega
        simp [h1, hi]
      · have h1 := ltrB_lt (show k < k0 by omega) ho.1.1
        have h1' : (ltrB k).toNat < (ltrB k0).toNat := h1
        have h2 : ¬ ltrB k0 < ltrB k := by
          show ¬ (ltrB k0).toNat < (ltrB k).toNat
          omega
        have h3 : ¬ ltrB k0 = ltrB k := fun e2 => by rw [e2] at h1'; omega
        simp [h2, h3]
/-- It is short. -/
theorem CWTo.run {m : Mz} {to : Pt} {bend : Int} (hb : 0 ≤ bend) {s0 : Stt} {s : Stt} {ks : List Nat} (h : CW m to bend s ks) : ∀ {pre : List Nat} {c : Int}, CWTo m to bend s0 pre s c → ∃ s' c', CWTo m to bend s0 (pre ++ ks) s' c' := by
  induction h with
  | done w => intro pre c hc; exact ⟨_, _, by rw [List.append_nil]; exact hc⟩
  | step k hk hn hg hf h ih =>
    intro pre c hc
    obtain ⟨d, h1, _⟩ := hc.next hb hk hn hg hf
    obtain ⟨s', c', h2⟩ := ih h1
    exact ⟨s', c', by rw [List.append_assoc] at h2; exact h2⟩
theorem CW.len {m : Mz} (hm : MzOk m) {to : Pt} {bend : Int} (hb : 0 ≤ bend) {s : Stt} {ks : List Nat} (hs : SOk m s) {c : Int} (hd : dist m to bend s = some c) (h : CW m to bend s ks) : ks.length ≤ 720 := by
  obtain ⟨s', c', h1⟩ := CWTo.run hb h (CWTo.start hb hs hd)
  have := h1.len hm
  simpa using this
/-! ### No more than 4 ^ 24 -/
/-- Another direction of coming in costs at most a bend more. -/
theorem dist_bend {m : Mz} {to : Pt} {bend : Int} (hb : 0 ≤ bend) {p : Pt} {a b : Int} {ca cb : Int} (ha : dist m to bend (p, a) = some ca) (hb' : dist m to bend (p, b) = some cb) : ca ≤ cb + bend := by
  have h1 := dist_iff.1 ha
  have h2 := dist_iff.1 hb'
  by_cases e : p = to
  · have := h1.2 0 (by rw [e]; exact .done a)
    have := h2.1.nonneg hb
    omega
  · cases h2.1 with
    | done => exact absurd rfl e
    | @step _ c k hk ho h =>
      have h3 := h1.2 _ (.step (s := (p, a)) k hk ho h)
      have : costS m bend (p, a) k ≤ costS m bend (p, b) k + bend := by
        unfold costS
        simp only
        split <;> split <;> omega
      omega
/-- So many steps straight on. -/
def lineTo (v : Pt) (k : Nat) (n : Nat) : Pt := if k = 0 then (v.1, v.2 - n) else if k = 1 then (v.1 - n, v.2) else if k = 2 then (v.1 + n, v.2) else (v.1, v.2 + n)
theorem lineTo_one (v : Pt) {k : Nat} (hk : k < 4) : lineTo v k 1 = stepTo v (k : Int) := by
  match k, hk with
  | 0, _ => rfl
  | 1, _ => rfl
  | 2, _ => rfl
  | 3, _ => rfl
theorem lineTo_succ (v : Pt) {k : Nat} (hk : k < 4) (n : Nat) : stepTo (lineTo v k n) (k : Int) = lineTo v k (n + 1) := by
  match k, hk with
  | 0, _ => simp [lineTo, stepTo]; omega
  | 1, _ => simp [lineTo, stepTo]; omega
  | 2, _ => simp [lineTo, stepTo]; omega
  | 3, _ => simp [lineTo, stepTo]; omega
theorem lineTo_ne (v : Pt) {k : Nat} (hk : k < 4) {n : Nat} (hn : 1 ≤ n) : lineTo v k n ≠ v := fun e => by
  have h1 := congrArg Prod.fst e
  have h2 := congrArg Prod.snd e
  match k, hk with
  | 0, _ => simp [lineTo] at h1 h2; omega
  | 1, _ => simp [lineTo] at h1 h2; omega
  | 2, _ => simp [lineTo] at h1 h2; omega
  | 3, _ => simp [lineTo] at h1 h2; omega
/-- A cell that was left on a cheapest way: it is straight behind, or too cheap to be come back to. -/
def Left (m : Mz) (to : Pt) (bend : Int) (v : Pt) (s : Stt) (d : Int) : Prop :=
  (∃ (a : Int) (cv : Int) (k n : Nat), (k < 4 ∧ 1 ≤ n) ∧ s = (lineTo v k n, (k : Int)) ∧ dist m to bend (v, a) = some cv ∧ d + n ≤ cv) ∨
  (∃ (a : Int) (cv : Int), dist m to bend (v, a) = some cv ∧ d + bend + 1 ≤ cv)
theorem Left.first {m : Mz} {to : Pt} {bend : Int} (hb : 0 ≤ bend) {s : Stt} {k : Nat} (hk : k < 4) (hg : Good m to bend s k) {d : Int} (hd : dist m to bend (nextS s k) = some d) : Left m to bend s.1 (nextS s k) d := by
  obtain ⟨ho, c, d', h1, h2, h3⟩ := hg
  rw [hd] at h2; cases h2
  have := costS_pos hb ho
  refine .inl ⟨s.2, c, k, 1, ⟨hk, Nat.le_refl _⟩, ?_, h1, by omega⟩
  rw [lineTo_one _ hk]; rfl
theorem Left.next {m : Mz} {to : Pt} {bend : Int} (hb : 0 ≤ bend) {v : Pt} {s : Stt} {c : Int} (hc : dist m to bend s = some c) (h : Left m to bend v s c) {k : Nat} (hk : k < 4) (hg : Good m to bend s k) {d : Int} (hd : dist m to bend (nextS s k) = some d) : Left m to bend v (nextS s k) d := by
  obtain ⟨ho, c', d', h1, h2, h3⟩ := hg
  rw [hd] at h2; cases h2
  rw [hc] at h1; cases h1
  have hp := costS_pos hb ho
  rcases h with ⟨a, cv, k0, n, ⟨hk0, hn⟩, e, hv, hle⟩ | ⟨a, cv, hv, hle⟩
  · by_cases ek : k0 = k
    · subst ek
      refine .inl ⟨a, cv, k0, n + 1, ⟨hk0, by omega⟩, ?_, hv, by omega⟩
      rw [e]
      unfold nextS
      rw [lineTo_succ v hk0]
    · refine .inr ⟨a, cv, hv, ?_⟩
      have hs2 : s.2 = (k0 : Int) := by rw [e]
      have hcl : 0 < cell m (stepTo s.1 (k : Int)) := ho.2
      have hcs : costS m bend s k = cell m (stepTo s.1 (k : Int)) + bend := if_pos ⟨by omega, by omega⟩
      omega
  · exact .inr ⟨a, cv, hv, by omega⟩
theorem Left.ne {m : Mz} {to : Pt} {bend : Int} (hb : 0 ≤ bend) {v : Pt} {s : Stt} {c : Int} (hc : dist m to bend s = some c) (h : Left m to bend v s c) : s.1 ≠ v := fun e => by
  rcases h with ⟨a, cv, k0, n, ⟨hk0, hn⟩, e2, hv, hle⟩ | ⟨a, cv, hv, hle⟩
  · rw [e2] at e
    exact lineTo_ne v hk0 hn e
  · obtain ⟨p, b⟩ := s
    simp only at e
    subst e
    have := dist_bend hb hv hc
    omega
theorem cells_le {m : Mz} {l : List Pt} (hn : l.Nodup) (h : ∀ q ∈ l, InMz m q) : l.length ≤ m.length * width m := by
  have hn2 : (l.map (fun q => (ixP m q).toNat)).Nodup := by
    have aux : ∀ l : List Pt, l.Nodup → (∀ q ∈ l, InMz m q) → (l.map (fun q => (ixP m q).toNat)).Nodup := by
      intro l
      induction l with
      | nil => intro _ _; simp
      | cons a r ih =>
        intro hn h
        rw [List.nodup_cons] at hn
        rw [List.map_cons, List.nodup_cons]
        refine ⟨fun hm => ?_, ih hn.2 (fun s hs => h s (List.mem_cons_of_mem _ hs))⟩
        obtain ⟨b, hb, e⟩ := List.mem_map.1 hm
        have h1 := ixP_bnd2 (h a (by simp))
        have h2 := ixP_bnd2 (h b (List.mem_cons_of_mem _ hb))
        have := ixP_inj (h b (List.mem_cons_of_mem _ hb)) (h a (by simp)) (by omega)
        exact hn.1 (this ▸ hb)
    exact aux l hn h
  have := nodup_leN hn2 (n := m.length * width m) (fun x hx => by
    obtain ⟨q, hq, rfl⟩ := List.mem_map.1 hx
    have h1 := ixP_bnd2 (h q hq)
    have h4 : ((m.length * width m : Nat) : Int) = (m.length : Int) * width m := by simp
    omega)
  rwa [List.length_map] at this
/-- The cheapest ways from a state on, by a bound of their steps. -/
noncomputable def waysF (m : Mz) (to : Pt) (bend : Int) : Nat → Stt → List (List Nat)
  | 0, _ => []
  | n + 1, s => open Classical in if s.1 = to then [[]] else (List.range 4).flatMap fun k => if Good m to bend s k then (waysF m to bend n (nextS s k)).map (k :: ·) else []
/-- What has been visited on the way to a state: all different, and all left. -/
structure Vis (m : Mz) (to : Pt) (bend : Int) (vs : List Pt) (s : Stt) (c : Int) : Prop where
  ok : SOk m s
  dist : dist m to bend s = some c
  nd : (vs ++ [s.1]).Nodup
  inn : ∀ v ∈ vs, InMz m v
  left : ∀ v ∈ vs, Left m to bend v s c
theorem Vis.start {m : Mz} {to : Pt} {bend : Int} {s : Stt} {c : Int} (h : SOk m s) (hd : Go.Proofs.Ytlfhhgfhoddgpaa.dist m to bend s = some c) : Vis m to bend [] s c :=
  ⟨h, hd, by simp, fun v hv => by simp at hv, fun v hv => by simp at hv⟩
theorem Vis.next {m : Mz} {to : Pt} {bend : Int} (hb : 0 ≤ bend) {vs : List Pt} {s : Stt} {c : Int} (h : Vis m to bend vs s c) {k : Nat} (hk : k < 4) (hg : Good m to bend s k) : ∃ d, Vis m to bend (vs ++ [s.1]) (nextS s k) d ∧ d < c := by
  obtain ⟨d, h1, h2, h3⟩ := hg.less hb h.dist
  have hl : ∀ v ∈ vs ++ [s.1], Left m to bend v (nextS s k) d := fun v hv => by
    rcases List.mem_append.1 hv with hv | hv
    · exact (h.left v hv).next hb h.dist hk hg h1
    · rw [List.mem_singleton.1 hv]; exact Left.first hb hk hg h1
  refine ⟨d, ⟨SOk.next hk hg.1, h1, ?_, fun v hv => ?_, hl⟩, h3⟩
  · rw [List.nodup_append]
    refine ⟨h.nd, by simp, fun a ha b hb' e => ?_⟩
    rw [List.mem_singleton.1 hb'] at e
    exact (hl a ha).ne hb h1 e.symm
  · rcases List.mem_append.1 hv with hv | hv
    · exact h.inn v hv
    · rw [List.mem_singleton.1 hv]; exact h.ok.1.1
theorem Vis.len {m : Mz} {to : Pt} {bend : Int} {vs : List Pt} {s : Stt} {c : Int} (h : Vis m to bend vs s c) : vs.length + 1 ≤ m.length * width m := by
  have := cells_le h.nd (fun q hq => by
    rcases List.mem_append.1 hq with hq | hq
    · exact h.inn q hq
    · rw [List.mem_singleton.1 hq]; exact h.ok.1.1)
  simpa using this
end Go.Proofs.Ytlfhhgfhoddgpaa
end
section
set_option linter.unusedSimpArgs false
set_option linter.unusedVariables false
namespace Go.Proofs.Ytlfhhgfhoddgpaa
open Go.Eng
/-- The ways that begin with one of the first j directions. -/
noncomputable def waysJ (m : Mz) (to : Pt) (bend : Int) (n : Nat) (s : Stt) (j : Nat) : List (List Nat) := open Classical in (List.range j).flatMap fun k => if Good m to bend s k then (waysF m to bend n (nextS s k)).map (k :: ·) else []
theorem waysJ_succ (m : Mz) (to : Pt) (bend : Int) (n : Nat) (s : Stt) (j : Nat) : waysJ m to bend n s (j + 1) = waysJ m to bend n s j ++ (open Classical in if Good m to bend s j then (waysF m to bend n (nextS s j)).map (j :: ·) else []) := by
  unfold waysJ
  rw [List.range_succ, List.flatMap_append]
  simp
theorem waysF_goal {m : Mz} {to : Pt} {bend : Int} {n : Nat} {s : Stt} (h : s.1 = to) : waysF m to bend (n + 1) s = [[]] := by
  unfold waysF
  rw [if_pos h]
theorem waysF_step {m : Mz} {to : Pt} {bend : Int} {n : Nat} {s : Stt} (h : s.1 ≠ to) : waysF m to bend (n + 1) s = waysJ m to bend n s 4 := by
  unfold waysF waysJ
  rw [if_neg h]
theorem pow_le {a b : Nat} (h : a ≤ b) : 4 ^ a ≤ 4 ^ b := Nat.pow_le_pow_right (by omega) h
theorem ways_cnt {m : Mz} {to : Pt} {bend : Int} (hb : 0 ≤ bend) : ∀ (h : Nat), h ≤ 24 → ∀ (n : Nat) (vs : List Pt) (s : Stt) (c : Int), Vis m to bend vs s c → m.length * width m ≤ vs.length + 1 + h →
    (waysF m to bend n s).length ≤ 4 ^ h ∧ cntF m to bend n s = ((waysF m to bend n s).length : Int) := by
  intro h
  induction h with
  | zero =>
    intro _ n vs s c hv hN
    cases n with
    | zero => exact ⟨by simp [waysF], by simp [waysF, cntF]⟩
    | succ n =>
      by_cases hto : s.1 = to
      · rw [waysF_goal hto]
        refine ⟨by simp, ?_⟩
        unfold cntF
        rw [if_pos hto]; rfl
      · obtain ⟨k, hk, hg⟩ := good_some hv.dist hto
        obtain ⟨d, h1, _⟩ := hv.next hb hk hg
        have := h1.len
        simp at this
        omega
  | succ h ih =>
    intro hh n vs s c hv hN
    cases n with
    | zero => exact ⟨by simp [waysF], by simp [waysF, cntF]⟩
    | succ n =>
      by_cases hto : s.1 = to
      · rw [waysF_goal hto]
        refine ⟨Nat.one_le_pow _ _ (by omega), ?_⟩
        unfold cntF
        rw [if_pos hto]; rfl
      · rw [waysF_step hto]
        unfold cntF
        rw [if_neg hto]
        have hp : 4 ^ h ≤ 4 ^ 23 := pow_le (by omega)
        have hp1 : 4 ^ (h + 1) = 4 ^ h * 4 := Nat.pow_succ ..
        have key : ∀ j, j ≤ 4 → (waysJ m to bend n s j).length ≤ j * 4 ^ h ∧ gsum m to bend (cntF m to bend n) s j = ((waysJ m to bend n s j).length : Int) := by
          intro j
          induction j with
          | zero => intro _; exact ⟨by simp [waysJ], by simp [waysJ, gsum]⟩
          | succ j jh =>
            intro hj
            obtain ⟨j1, j2⟩ := jh (by omega)
            rw [waysJ_succ]
            by_cases hg : Good m to bend s j
            · obtain ⟨d, h1, _⟩ := hv.next hb (show j < 4 by omega) hg
              obtain ⟨i1, i2⟩ := ih (by omega) n _ _ d h1 (by simp; omega)
              rw [gsum_yes hg, if_pos hg, i2, j2, List.length_append, List.length_map]
              have hm : (j + 1) * 4 ^ h = j * 4 ^ h + 4 ^ h := Nat.succ_mul ..
              have hq : j * 4 ^ h ≤ 3 * 4 ^ h := Nat.mul_le_mul_right _ (by omega)
              refine ⟨by omega, ?_⟩
              have h23 : (4 : Nat) ^ 23 = 70368744177664 := by decide
              rw [wrap64 (by omega)]
              omega
            · rw [gsum_no hg, if_neg hg, List.append_nil]
              have hm : (j + 1) * 4 ^ h = j * 4 ^ h + 4 ^ h := Nat.succ_mul ..
              exact ⟨by omega, j2⟩
        obtain ⟨k1, k2⟩ := key 4 (Nat.le_refl _)
        exact ⟨by omega, k2⟩
/-- They are the cheapest ways. -/
theorem ways_mem {m : Mz} {to : Pt} {bend : Int} (hb : 0 ≤ bend) : ∀ (n : Nat) (s : Stt) (c : Int), dist m to bend s = some c → c < n → ∀ ks, ks ∈ waysF m to bend n s ↔ OpenF m s ks ∧ (endF s ks).1 = to ∧ costF m bend s ks = c := by
  intro n
  induction n with
  | zero => intro s c hd h; have := (dist_iff.1 hd).1.nonneg hb; omega
  | succ n ih =>
    intro s c hd h ks
    by_cases hto : s.1 = to
    · rw [waysF_goal hto]
      have hc0 : c = 0 := by
        obtain ⟨p, w⟩ := s
        simp only at hto
        subst hto
        exact (dist_iff.1 hd).unique (LeastC.goal hb w)
      constructor
      · intro hk
        rw [List.mem_singleton.1 hk]
        exact ⟨trivial, hto, hc0.symm⟩
      · rintro ⟨h1, h2, h3⟩
        cases ks with
        | nil => simp
        | cons k r =>
          have hp := (h1.2.path (bend := bend) h2).nonneg hb
          have hq := costS_pos hb h1.1.2
          have e : costF m bend s (k :: r) = costS m bend s k + costF m bend (nextS s k) r := rfl
          omega
    · rw [waysF_step hto]
      unfold waysJ
      rw [List.mem_flatMap]
      constructor
      · rintro ⟨k, hk, hm⟩
        have hk4 : k < 4 := by simpa using hk
        by_cases hg : Good m to bend s k
        · rw [if_pos hg] at hm
          obtain ⟨r, hr, rfl⟩ := List.mem_map.1 hm
          obtain ⟨d, h1, h2, h3⟩ := hg.less hb hd
          obtain ⟨i1, i2, i3⟩ := (ih _ d h1 (by omega) r).1 hr
          obtain ⟨ho, c', d', e1, e2, e3⟩ := hg
          rw [hd] at e1; cases e1
          rw [h1] at e2; cases e2
          exact ⟨⟨⟨hk4, ho⟩, i1⟩, i2, by show costS m bend s k + costF m bend (nextS s k) r = c; rw [i3]; exact e3⟩
        · rw [if_neg hg] at hm; simp at hm
      · rintro ⟨h1, h2, h3⟩
        cases ks with
        | nil => exact absurd h2 hto
        | cons k r =>
          obtain ⟨g1, g2⟩ := good_of hd h1 h2 h3
          obtain ⟨d, e1, e2, e3⟩ := g1.less hb hd
          rw [g2] at e1; cases e1
          refine ⟨k, by simpa using h1.1.1, ?_⟩
          rw [if_pos g1]
          exact List.mem_map.2 ⟨r, (ih _ _ g2 (by omega) r).2 ⟨h1.2, h2, rfl⟩, rfl⟩
/-- The number of the cheapest ways, where the maze is small. -/
theorem cntW_len {m : Mz} {to : Pt} {bend : Int} (hb : 0 ≤ bend) (hN : m.length * width m ≤ 25) {s : Stt} (hs : SOk m s) {c : Int} (hd : dist m to bend s = some c) :
    cntW m to bend s = ((waysF m to bend (c.toNat + 1) s).length : Int) ∧ (waysF m to bend (c.toNat + 1) s).length ≤ 4 ^ 24 ∧ 1 ≤ (waysF m to bend (c.toNat + 1) s).length := by
  have hc := (dist_iff.1 hd).1.nonneg hb
  obtain ⟨h1, h2⟩ := ways_cnt hb 24 (Nat.le_refl _) (c.toNat + 1) [] s c (Vis.start hs hd) (by simp; omega)
  refine ⟨?_, h1, ?_⟩
  · unfold cntW
    rw [hd]
    exact h2
  · obtain ⟨ks, k1, k2, k3⟩ := (dist_iff.1 hd).1.ways
    have := (ways_mem hb (c.toNat + 1) s c hd (by omega) ks).2 ⟨k1, k2, k3⟩
    exact List.length_pos_of_mem this
end Go.Proofs.Ytlfhhgfhoddgpaa
end
