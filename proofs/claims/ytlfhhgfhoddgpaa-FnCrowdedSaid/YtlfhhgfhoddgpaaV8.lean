/- Texts of this seat that the law stands on, put together. No conditions. -/
import Derived.Test.YtlfhhgfhoddgpaaProg
import Derived.KernelRfl
import Derived.Test.YtlfhhgfhoddgpaaV7
section
namespace Go.Proofs.Ytlfhhgfhoddgpaa
open Go.Eng
def eSl : TypeId → Option ETy
  | 22 => some (.int .u8)
  | 24 => some (.sli .i64)
  | 35 => some (.int .i64)
  | 36 => some (.pt)
  | 83 => some (.st)
  | 99 => some (.int .i64)
  | _ => none
def eVar : TypeId → Option (Bool × Nat)
  | 1 => some (false, 1)
  | 2 => some (false, 1)
  | 3 => some (false, 1)
  | 4 => some (false, 1)
  | 5 => some (false, 1)
  | 6 => some (false, 1)
  | 7 => some (true, 4)
  | 8 => some (true, 4)
  | 9 => some (false, 1)
  | 10 => some (false, 1)
  | 11 => some (false, 1)
  | 12 => some (false, 1)
  | 13 => some (true, 2)
  | 14 => some (true, 2)
  | 15 => some (false, 1)
  | 16 => some (false, 1)
  | 17 => some (false, 1)
  | 18 => some (true, 1)
  | 19 => some (true, 1)
  | 21 => some (false, 1)
  | 22 => some (false, 1)
  | 23 => some (false, 1)
  | 24 => some (false, 1)
  | 25 => some (true, 1)
  | 26 => some (true, 1)
  | 27 => some (false, 1)
  | 28 => some (true, 2)
  | 29 => some (true, 2)
  | 30 => some (false, 1)
  | 31 => some (false, 1)
  | 33 => some (false, 1)
  | 34 => some (false, 1)
  | 35 => some (false, 1)
  | 36 => some (false, 1)
  | 38 => some (false, 1)
  | 39 => some (false, 1)
  | 40 => some (false, 1)
  | 42 => some (false, 1)
  | 44 => some (false, 1)
  | 45 => some (false, 1)
  | 46 => some (false, 1)
  | 48 => some (false, 1)
  | 49 => some (false, 1)
  | 50 => some (false, 1)
  | 51 => some (false, 1)
  | 52 => some (false, 1)
  | 53 => some (false, 1)
  | 54 => some (false, 1)
  | 55 => some (false, 1)
  | 56 => some (false, 1)
  | 57 => some (false, 1)
  | 58 => some (false, 1)
  | 59 => some (false, 1)
  | 60 => some (false, 1)
  | 61 => some (false, 1)
  | 62 => some (false, 1)
  | 63 => some (false, 1)
  | 64 => some (false, 1)
  | 65 => some (false, 1)
  | 66 => some (true, 3)
  | 67 => some (true, 3)
  | 69 => some (false, 1)
  | 70 => some (false, 1)
  | 71 => some (false, 1)
  | 72 => some (false, 1)
  | 73 => some (false, 1)
  | 74 => some (false, 1)
  | 75 => some (false, 1)
  | 76 => some (true, 3)
  | 77 => some (true, 3)
  | 78 => some (false, 1)
  | 79 => some (false, 1)
  | 80 => some (false, 1)
  | 81 => some (false, 1)
  | 82 => some (false, 1)
  | 83 => some (false, 1)
  | 84 => some (false, 1)
  | 85 => some (false, 1)
  | 86 => some (false, 1)
  | 87 => some (false, 1)
  | 88 => some (false, 1)
  | 89 => some (false, 1)
  | 91 => some (false, 1)
  | 92 => some (false, 1)
  | 93 => some (false, 1)
  | 95 => some (false, 1)
  | 96 => some (false, 1)
  | 97 => some (false, 1)
  | 98 => some (false, 1)
  | 99 => some (false, 1)
  | 100 => some (false, 1)
  | 101 => some (false, 1)
  | 102 => some (false, 1)
  | 103 => some (false, 1)
  | 104 => some (false, 1)
  | 105 => some (false, 1)
  | 106 => some (false, 1)
  | 108 => some (false, 1)
  | 109 => some (false, 1)
  | 110 => some (true, 4)
  | 111 => some (true, 4)
  | 115 => some (false, 1)
  | 116 => some (false, 1)
  | 117 => some (false, 1)
  | 118 => some (false, 1)
  | 119 => some (false, 1)
  | 120 => some (false, 1)
  | 121 => some (false, 1)
  | 122 => some (true, 11)
  | 123 => some (true, 11)
  | _ => none
def eFld : TypeId → Nat → Option Nat
  | 7, 0 => some 0
  | 7, 1 => some 1
  | 7, 2 => some 2
  | 7, 3 => some 3
  | 8, 0 => some 0
  | 8, 1 => some 1
  | 8, 2 => some 2
  | 8, 3 => some 3
  | 13, 0 => some 0
  | 13, 1 => some 1
  | 14, 0 => some 0
  | 14, 1 => some 1
  | 18, 0 => some 0
  | 19, 0 => some 0
  | 25, 0 => some 0
  | 26, 0 => some 0
  | 28, 0 => some 0
  | 28, 1 => some 1
  | 29, 0 => some 0
  | 29, 1 => some 1
  | 66, 0 => some 0
  | 66, 1 => some 2
  | 67, 0 => some 0
  | 67, 1 => some 2
  | 76, 0 => some 0
  | 76, 1 => some 1
  | 76, 2 => some 2
  | 77, 0 => some 0
  | 77, 1 => some 1
  | 77, 2 => some 2
  | 110, 0 => some 0
  | 110, 1 => some 1
  | 110, 2 => some 2
  | 110, 3 => some 3
  | 111, 0 => some 0
  | 111, 1 => some 1
  | 111, 2 => some 2
  | 111, 3 => some 3
  | 122, 0 => some 0
  | 122, 1 => some 1
  | 122, 2 => some 2
  | 122, 3 => some 3
  | 122, 4 => some 4
  | 122, 5 => some 5
  | 122, 6 => some 6
  | 122, 7 => some 7
  | 122, 8 => some 8
  | 122, 9 => some 9
  | 122, 10 => some 10
  | 123, 0 => some 0
  | 123, 1 => some 1
  | 123, 2 => some 2
  | 123, 3 => some 3
  | 123, 4 => some 4
  | 123, 5 => some 5
  | 123, 6 => some 6
  | 123, 7 => some 7
  | 123, 8 => some 8
  | 123, 9 => some 9
  | 123, 10 => some 10
  | _, _ => none
def eZero : TypeId → Option (List Value)
  | 1 => some [.nilFunc]
  | 2 => some [.int .i64 0]
  | 3 => some [.int .i64 0]
  | 4 => some [.bool false]
  | 5 => some [.int .u8 0]
  | 6 => some [.int .u8 0]
  | 7 => some [.int .i64 0, .int .i64 0, .bool false, .int .u8 0]
  | 8 => some [.int .i64 0, .int .i64 0, .bool false, .int .u8 0]
  | 9 => some [.string ByteArray.empty]
  | 10 => some [.string ByteArray.empty]
  | 11 => some [.string ByteArray.empty]
  | 12 => some [.int .u64 0]
  | 13 => some [.string ByteArray.empty, .int .u64 0]
  | 14 => some [.string ByteArray.empty, .int .u64 0]
  | 15 => some [.pointer none]
  | 16 => some [.pointer none]
  | 17 => some [.pointer none]
  | 18 => some [.pointer none]
  | 19 => some [.pointer none]
  | 21 => some [.int .i32 0]
  | 22 => some [.slice none 0 0]
  | 23 => some [.nilFunc]
  | 24 => some [.slice none 0 0]
  | 25 => some [.slice none 0 0]
  | 26 => some [.slice none 0 0]
  | 27 => some [.nilFunc]
  | 28 => some [.int .i64 0, .int .i64 0]
  | 29 => some [.int .i64 0, .int .i64 0]
  | 30 => some [.nilFunc]
  | 31 => some [.nilFunc]
  | 33 => some [.nilFunc]
  | 34 => some [.nilFunc]
  | 35 => some [.slice none 0 0]
  | 36 => some [.slice none 0 0]
  | 38 => some [.nilFunc]
  | 39 => some [.nilFunc]
  | 40 => some [.nilFunc]
  | 42 => some [.nilFunc]
  | 44 => some [.nilFunc]
  | 45 => some [.nilFunc]
  | 46 => some [.nilFunc]
  | 48 => some [.nilFunc]
  | 49 => some [.int .u64 0]
  | 50 => some [.pointer none]
  | 51 => some [.nilFunc]
  | 52 => some [.nilFunc]
  | 53 => some [.nilFunc]
  | 54 => some [.nilFunc]
  | 55 => some [.pointer none]
  | 56 => some [.nilFunc]
  | 57 => some [.nilFunc]
  | 58 => some [.nilFunc]
  | 59 => some [.nilFunc]
  | 60 => some [.nilFunc]
  | 61 => some [.nilFunc]
  | 62 => some [.nilFunc]
  | 63 => some [.nilFunc]
  | 64 => some [.map none]
  | 65 => some [.nilFunc]
  | 66 => some [.int .i64 0, .int .i64 0, .int .i64 0]
  | 67 => some [.int .i64 0, .int .i64 0, .int .i64 0]
  | 69 => some [.nilFunc]
  | 70 => some [.nilFunc]
  | 71 => some [.nilFunc]
  | 72 => some [.nilFunc]
  | 73 => some [.map none]
  | 74 => some [.nilFunc]
  | 75 => some [.int .u64 0]
  | 76 => some [.slice none 0 0, .int .i64 0, .int .u64 0]
  | 77 => some [.slice none 0 0, .int .i64 0, .int .u64 0]
  | 78 => some [.nilFunc]
  | 79 => some [.nilFunc]
  | 80 => some [.nilFunc]
  | 81 => some [.nilFunc]
  | 82 => some [.nilFunc]
  | 83 => some [.slice none 0 0]
  | 84 => some [.nilFunc]
  | 85 => some [.nilFunc]
  | 86 => some [.nilFunc]
  | 87 => some [.nilFunc]
  | 88 => some [.nilFunc]
  | 89 => some [.int .i64 0]
  | 91 => some [.nilFunc]
  | 92 => some [.nilFunc]
  | 93 => some [.nilFunc]
  | 95 => some [.nilFunc]
  | 96 => some [.nilFunc]
  | 97 => some [.int .u32 0]
  | 98 => some [.nilFunc]
  | 99 => some [.slice none 0 0]
  | 100 => some [.int .u64 0]
  | 101 => some [.nilFunc]
  | 102 => some [.nilFunc]
  | 103 => some [.nilFunc]
  | 104 => some [.pointer none]
  | 105 => some [.nilFunc]
  | 106 => some [.pointer none]
  | 108 => some [.nilFunc]
  | 109 => some [.nilFunc]
  | 110 => some [.pointer none, .pointer none, .pointer none, .string ByteArray.empty]
  | 111 => some [.pointer none, .pointer none, .pointer none, .string ByteArray.empty]
  | 115 => some [.nilFunc]
  | 116 => some [.int .u8 0]
  | 117 => some [.int .u8 0]
  | 118 => some [.nilFunc]
  | 119 => some [.pointer none]
  | 120 => some [.int .i32 0]
  | 121 => some [.int .i32 0]
  | 122 => some [.int .u64 0, .int .u64 0, .int .u32 0, .int .u8 0, .int .u8 0, .int .u8 0, .int .u8 0, .nilFunc, .pointer none, .int .i32 0, .int .i32 0]
  | 123 => some [.int .u64 0, .int .u64 0, .int .u32 0, .int .u8 0, .int .u8 0, .int .u8 0, .int .u8 0, .nilFunc, .pointer none, .int .i32 0, .int .i32 0]
  | _ => none
def eKnd : TypeId → Option TypeDesc
  | 2 => some (.int .i64)
  | 3 => some (.int .i64)
  | 4 => some (.bool)
  | 5 => some (.int .u8)
  | 6 => some (.int .u8)
  | 9 => some (.string)
  | 10 => some (.string)
  | 11 => some (.string)
  | 12 => some (.int .u64)
  | 21 => some (.int .i32)
  | 49 => some (.int .u64)
  | 75 => some (.int .u64)
  | 89 => some (.int .i64)
  | 97 => some (.int .u32)
  | 100 => some (.int .u64)
  | 116 => some (.int .u8)
  | 117 => some (.int .u8)
  | 120 => some (.int .i32)
  | 121 => some (.int .i32)
  | _ => none
def eBld : TypeId → Option (List (Nat × Nat))
  | 7 => some [(0, 1), (1, 1), (2, 1), (3, 1)]
  | 8 => some [(0, 1), (1, 1), (2, 1), (3, 1)]
  | 13 => some [(0, 1), (1, 1)]
  | 14 => some [(0, 1), (1, 1)]
  | 18 => some [(0, 1)]
  | 19 => some [(0, 1)]
  | 25 => some [(0, 1)]
  | 26 => some [(0, 1)]
  | 28 => some [(0, 1), (1, 1)]
  | 29 => some [(0, 1), (1, 1)]
  | 66 => some [(0, 2), (2, 1)]
  | 67 => some [(0, 2), (2, 1)]
  | 76 => some [(0, 1), (1, 1), (2, 1)]
  | 77 => some [(0, 1), (1, 1), (2, 1)]
  | 110 => some [(0, 1), (1, 1), (2, 1), (3, 1)]
  | 111 => some [(0, 1), (1, 1), (2, 1), (3, 1)]
  | 122 => some [(0, 1), (1, 1), (2, 1), (3, 1), (4, 1), (5, 1), (6, 1), (7, 1), (8, 1), (9, 1), (10, 1)]
  | 123 => some [(0, 1), (1, 1), (2, 1), (3, 1), (4, 1), (5, 1), (6, 1), (7, 1), (8, 1), (9, 1), (10, 1)]
  | _ => none
def ePts : TypeId → Bool
  | 28 => true
  | 29 => true
  | _ => false
def eMp : TypeId → Option (KK × Value)
  | 64 => some (.st, .int .i64 0)
  | 73 => some (.pt, .bool false)
  | _ => none
def eByt : TypeId → Bool
  | 22 => true
  | _ => false
def eIfc : TypeId → Bool
  | 20 => true
  | _ => false
def env : Env := { sl := eSl, var := eVar, fld := eFld, zero := eZero, knd := eKnd, bld := eBld, pts := ePts, mp := eMp, byt := eByt, ifc := eIfc }
theorem info1 : (Try.prog.info? 1).map (fun i => (i.zero, i.size, i.bytes)) = some (some (.nilFunc), 1, 8) := by kernel_rfl
theorem info2 : (Try.prog.info? 2).map (fun i => (i.zero, i.size, i.bytes)) = some (some (.int .i64 0), 1, 8) := by kernel_rfl
theorem info3 : (Try.prog.info? 3).map (fun i => (i.zero, i.size, i.bytes)) = some (some (.int .i64 0), 1, 8) := by kernel_rfl
theorem info4 : (Try.prog.info? 4).map (fun i => (i.zero, i.size, i.bytes)) = some (some (.bool false), 1, 1) := by kernel_rfl
theorem info5 : (Try.prog.info? 5).map (fun i => (i.zero, i.size, i.bytes)) = some (some (.int .u8 0), 1, 1) := by kernel_rfl
theorem info6 : (Try.prog.info? 6).map (fun i => (i.zero, i.size, i.bytes)) = some (some (.int .u8 0), 1, 1) := by kernel_rfl
theorem info7 : (Try.prog.info? 7).map (fun i => (i.zero, i.size, i.bytes)) = some (some (.agg #[.int .i64 0, .int .i64 0, .bool false, .int .u8 0]), 4, 24) := by kernel_rfl
theorem info8 : (Try.prog.info? 8).map (fun i => (i.zero, i.size, i.bytes)) = some (some (.agg #[.int .i64 0, .int .i64 0, .bool false, .int .u8 0]), 4, 24) := by kernel_rfl
theorem info9 : (Try.prog.info? 9).map (fun i => (i.zero, i.size, i.bytes)) = some (some (.string ByteArray.empty), 1, 16) := by kernel_rfl
theorem info10 : (Try.prog.info? 10).map (fun i => (i.zero, i.size, i.bytes)) = some (some (.string ByteArray.empty), 1, 16) := by kernel_rfl
theorem info11 : (Try.prog.info? 11).map (fun i => (i.zero, i.size, i.bytes)) = some (some (.string ByteArray.empty), 1, 16) := by kernel_rfl
theorem info12 : (Try.prog.info? 12).map (fun i => (i.zero, i.size, i.bytes)) = some (some (.int .u64 0), 1, 8) := by kernel_rfl
theorem info13 : (Try.prog.info? 13).map (fun i => (i.zero, i.size, i.bytes)) = some (some (.agg #[.string ByteArray.empty, .int .u64 0]), 2, 24) := by kernel_rfl
theorem info14 : (Try.prog.info? 14).map (fun i => (i.zero, i.size, i.bytes)) = some (some (.agg #[.string ByteArray.empty, .int .u64 0]), 2, 24) := by kernel_rfl
theorem info15 : (Try.prog.info? 15).map (fun i => (i.zero, i.size, i.bytes)) = some (some (.pointer none), 1, 8) := by kernel_rfl
theorem info16 : (Try.prog.info? 16).map (fun i => (i.zero, i.size, i.bytes)) = some (some (.pointer none), 1, 8) := by kernel_rfl
theorem info17 : (Try.prog.info? 17).map (fun i => (i.zero, i.size, i.bytes)) = some (some (.pointer none), 1, 8) := by kernel_rfl
theorem info18 : (Try.prog.info? 18).map (fun i => (i.zero, i.size, i.bytes)) = some (some (.agg #[.pointer none]), 1, 8) := by kernel_rfl
theorem info19 : (Try.prog.info? 19).map (fun i => (i.zero, i.size, i.bytes)) = some (some (.agg #[.pointer none]), 1, 8) := by kernel_rfl
theorem info21 : (Try.prog.info? 21).map (fun i => (i.zero, i.size, i.bytes)) = some (some (.int .i32 0), 1, 4) := by kernel_rfl
theorem info22 : (Try.prog.info? 22).map (fun i => (i.zero, i.size, i.bytes)) = some (some (.slice none 0 0), 1, 24) := by kernel_rfl
theorem info23 : (Try.prog.info? 23).map (fun i => (i.zero, i.size, i.bytes)) = some (some (.nilFunc), 1, 8) := by kernel_rfl
theorem info24 : (Try.prog.info? 24).map (fun i => (i.zero, i.size, i.bytes)) = some (some (.slice none 0 0), 1, 24) := by kernel_rfl
theorem info25 : (Try.prog.info? 25).map (fun i => (i.zero, i.size, i.bytes)) = some (some (.agg #[.slice none 0 0]), 1, 24) := by kernel_rfl
theorem info26 : (Try.prog.info? 26).map (fun i => (i.zero, i.size, i.bytes)) = some (some (.agg #[.slice none 0 0]), 1, 24) := by kernel_rfl
theorem info27 : (Try.prog.info? 27).map (fun i => (i.zero, i.size, i.bytes)) = some (some (.nilFunc), 1, 8) := by kernel_rfl
theorem info28 : (Try.prog.info? 28).map (fun i => (i.zero, i.size, i.bytes)) = some (some (.agg #[.int .i64 0, .int .i64 0]), 2, 16) := by kernel_rfl
theorem info29 : (Try.prog.info? 29).map (fun i => (i.zero, i.size, i.bytes)) = some (some (.agg #[.int .i64 0, .int .i64 0]), 2, 16) := by kernel_rfl
theorem info30 : (Try.prog.info? 30).map (fun i => (i.zero, i.size, i.bytes)) = some (some (.nilFunc), 1, 8) := by kernel_rfl
theorem info31 : (Try.prog.info? 31).map (fun i => (i.zero, i.size, i.bytes)) = some (some (.nilFunc), 1, 8) := by kernel_rfl
theorem info33 : (Try.prog.info? 33).map (fun i => (i.zero, i.size, i.bytes)) = some (some (.nilFunc), 1, 8) := by kernel_rfl
theorem info34 : (Try.prog.info? 34).map (fun i => (i.zero, i.size, i.bytes)) = some (some (.nilFunc), 1, 8) := by kernel_rfl
theorem info35 : (Try.prog.info? 35).map (fun i => (i.zero, i.size, i.bytes)) = some (some (.slice none 0 0), 1, 24) := by kernel_rfl
theorem info36 : (Try.prog.info? 36).map (fun i => (i.zero, i.size, i.bytes)) = some (some (.slice none 0 0), 1, 24) := by kernel_rfl
theorem info38 : (Try.prog.info? 38).map (fun i => (i.zero, i.size, i.bytes)) = some (some (.nilFunc), 1, 8) := by kernel_rfl
theorem info39 : (Try.prog.info? 39).map (fun i => (i.zero, i.size, i.bytes)) = some (some (.nilFunc), 1, 8) := by kernel_rfl
theorem info40 : (Try.prog.info? 40).map (fun i => (i.zero, i.size, i.bytes)) = some (some (.nilFunc), 1, 8) := by kernel_rfl
theorem info42 : (Try.prog.info? 42).map (fun i => (i.zero, i.size, i.bytes)) = some (some (.nilFunc), 1, 8) := by kernel_rfl
theorem info44 : (Try.prog.info? 44).map (fun i => (i.zero, i.size, i.bytes)) = some (some (.nilFunc), 1, 8) := by kernel_rfl
theorem info45 : (Try.prog.info? 45).map (fun i => (i.zero, i.size, i.bytes)) = some (some (.nilFunc), 1, 8) := by kernel_rfl
theorem info46 : (Try.prog.info? 46).map (fun i => (i.zero, i.size, i.bytes)) = some (some (.nilFunc), 1, 8) := by kernel_rfl
theorem info48 : (Try.prog.info? 48).map (fun i => (i.zero, i.size, i.bytes)) = some (some (.nilFunc), 1, 8) := by kernel_rfl
theorem info49 : (Try.prog.info? 49).map (fun i => (i.zero, i.size, i.bytes)) = some (some (.int .u64 0), 1, 8) := by kernel_rfl
theorem info50 : (Try.prog.info? 50).map (fun i => (i.zero, i.size, i.bytes)) = some (some (.pointer none), 1, 8) := by kernel_rfl
theorem info51 : (Try.prog.info? 51).map (fun i => (i.zero, i.size, i.bytes)) = some (some (.nilFunc), 1, 8) := by kernel_rfl
theorem info52 : (Try.prog.info? 52).map (fun i => (i.zero, i.size, i.bytes)) = some (some (.nilFunc), 1, 8) := by kernel_rfl
theorem info53 : (Try.prog.info? 53).map (fun i => (i.zero, i.size, i.bytes)) = some (some (.nilFunc), 1, 8) := by kernel_rfl
theorem info54 : (Try.prog.info? 54).map (fun i => (i.zero, i.size, i.bytes)) = some (some (.nilFunc), 1, 8) := by kernel_rfl
theorem info55 : (Try.prog.info? 55).map (fun i => (i.zero, i.size, i.bytes)) = some (some (.pointer none), 1, 8) := by kernel_rfl
theorem info56 : (Try.prog.info? 56).map (fun i => (i.zero, i.size, i.bytes)) = some (some (.nilFunc), 1, 8) := by kernel_rfl
theorem info57 : (Try.prog.info? 57).map (fun i => (i.zero, i.size, i.bytes)) = some (some (.nilFunc), 1, 8) := by kernel_rfl
theorem info58 : (Try.prog.info? 58).map (fun i => (i.zero, i.size, i.bytes)) = some (some (.nilFunc), 1, 8) := by kernel_rfl
theorem info59 : (Try.prog.info? 59).map (fun i => (i.zero, i.size, i.bytes)) = some (some (.nilFunc), 1, 8) := by kernel_rfl
theorem info60 : (Try.prog.info? 60).map (fun i => (i.zero, i.size, i.bytes)) = some (some (.nilFunc), 1, 8) := by kernel_rfl
theorem info61 : (Try.prog.info? 61).map (fun i => (i.zero, i.size, i.bytes)) = some (some (.nilFunc), 1, 8) := by kernel_rfl
theorem info62 : (Try.prog.info? 62).map (fun i => (i.zero, i.size, i.bytes)) = some (some (.nilFunc), 1, 8) := by kernel_rfl
theorem info63 : (Try.prog.info? 63).map (fun i => (i.zero, i.size, i.bytes)) = some (some (.nilFunc), 1, 8) := by kernel_rfl
theorem info64 : (Try.prog.info? 64).map (fun i => (i.zero, i.size, i.bytes)) = some (some (.map none), 1, 8) := by kernel_rfl
theorem info65 : (Try.prog.info? 65).map (fun i => (i.zero, i.size, i.bytes)) = some (some (.nilFunc), 1, 8) := by kernel_rfl
theorem info66 : (Try.prog.info? 66).map (fun i => (i.zero, i.size, i.bytes)) = some (some (.agg #[.int .i64 0, .int .i64 0, .int .i64 0]), 3, 24) := by kernel_rfl
theorem info67 : (Try.prog.info? 67).map (fun i => (i.zero, i.size, i.bytes)) = some (some (.agg #[.int .i64 0, .int .i64 0, .int .i64 0]), 3, 24) := by kernel_rfl
theorem info69 : (Try.prog.info? 69).map (fun i => (i.zero, i.size, i.bytes)) = some (some (.nilFunc), 1, 8) := by kernel_rfl
theorem info70 : (Try.prog.info? 70).map (fun i => (i.zero, i.size, i.bytes)) = some (some (.nilFunc), 1, 8) := by kernel_rfl
theorem info71 : (Try.prog.info? 71).map (fun i => (i.zero, i.size, i.bytes)) = some (some (.nilFunc), 1, 8) := by kernel_rfl
theorem info72 : (Try.prog.info? 72).map (fun i => (i.zero, i.size, i.bytes)) = some (some (.nilFunc), 1, 8) := by kernel_rfl
theorem info73 : (Try.prog.info? 73).map (fun i => (i.zero, i.size, i.bytes)) = some (some (.map none), 1, 8) := by kernel_rfl
theorem info74 : (Try.prog.info? 74).map (fun i => (i.zero, i.size, i.bytes)) = some (some (.nilFunc), 1, 8) := by kernel_rfl
theorem info75 : (Try.prog.info? 75).map (fun i => (i.zero, i.size, i.bytes)) = some (some (.int .u64 0), 1, 8) := by kernel_rfl
theorem info76 : (Try.prog.info? 76).map (fun i => (i.zero, i.size, i.bytes)) = some (some (.agg #[.slice none 0 0, .int .i64 0, .int .u64 0]), 3, 40) := by kernel_rfl
theorem info77 : (Try.prog.info? 77).map (fun i => (i.zero, i.size, i.bytes)) = some (some (.agg #[.slice none 0 0, .int .i64 0, .int .u64 0]), 3, 40) := by kernel_rfl
theorem info78 : (Try.prog.info? 78).map (fun i => (i.zero, i.size, i.bytes)) = some (some (.nilFunc), 1, 8) := by kernel_rfl
theorem info79 : (Try.prog.info? 79).map (fun i => (i.zero, i.size, i.bytes)) = some (some (.nilFunc), 1, 8) := by kernel_rfl
theorem info80 : (Try.prog.info? 80).map (fun i => (i.zero, i.size, i.bytes)) = some (some (.nilFunc), 1, 8) := by kernel_rfl
theorem info81 : (Try.prog.info? 81).map (fun i => (i.zero, i.size, i.bytes)) = some (some (.nilFunc), 1, 8) := by kernel_rfl
theorem info82 : (Try.prog.info? 82).map (fun i => (i.zero, i.size, i.bytes)) = some (some (.nilFunc), 1, 8) := by kernel_rfl
theorem info83 : (Try.prog.info? 83).map (fun i => (i.zero, i.size, i.bytes)) = some (some (.slice none 0 0), 1, 24) := by kernel_rfl
theorem info84 : (Try.prog.info? 84).map (fun i => (i.zero, i.size, i.bytes)) = some (some (.nilFunc), 1, 8) := by kernel_rfl
theorem info85 : (Try.prog.info? 85).map (fun i => (i.zero, i.size, i.bytes)) = some (some (.nilFunc), 1, 8) := by kernel_rfl
theorem info86 : (Try.prog.info? 86).map (fun i => (i.zero, i.size, i.bytes)) = some (some (.nilFunc), 1, 8) := by kernel_rfl
theorem info87 : (Try.prog.info? 87).map (fun i => (i.zero, i.size, i.bytes)) = some (some (.nilFunc), 1, 8) := by kernel_rfl
theorem info88 : (Try.prog.info? 88).map (fun i => (i.zero, i.size, i.bytes)) = some (some (.nilFunc), 1, 8) := by kernel_rfl
theorem info89 : (Try.prog.info? 89).map (fun i => (i.zero, i.size, i.bytes)) = some (some (.int .i64 0), 1, 8) := by kernel_rfl
theorem info91 : (Try.prog.info? 91).map (fun i => (i.zero, i.size, i.bytes)) = some (some (.nilFunc), 1, 8) := by kernel_rfl
theorem info92 : (Try.prog.info? 92).map (fun i => (i.zero, i.size, i.bytes)) = some (some (.nilFunc), 1, 8) := by kernel_rfl
theorem info93 : (Try.prog.info? 93).map (fun i => (i.zero, i.size, i.bytes)) = some (some (.nilFunc), 1, 8) := by kernel_rfl
theorem info95 : (Try.prog.info? 95).map (fun i => (i.zero, i.size, i.bytes)) = some (some (.nilFunc), 1, 8) := by kernel_rfl
theorem info96 : (Try.prog.info? 96).map (fun i => (i.zero, i.size, i.bytes)) = some (some (.nilFunc), 1, 8) := by kernel_rfl
theorem info97 : (Try.prog.info? 97).map (fun i => (i.zero, i.size, i.bytes)) = some (some (.int .u32 0), 1, 4) := by kernel_rfl
theorem info98 : (Try.prog.info? 98).map (fun i => (i.zero, i.size, i.bytes)) = some (some (.nilFunc), 1, 8) := by kernel_rfl
theorem info99 : (Try.prog.info? 99).map (fun i => (i.zero, i.size, i.bytes)) = some (some (.slice none 0 0), 1, 24) := by kernel_rfl
theorem info100 : (Try.prog.info? 100).map (fun i => (i.zero, i.size, i.bytes)) = some (some (.int .u64 0), 1, 8) := by kernel_rfl
theorem info101 : (Try.prog.info? 101).map (fun i => (i.zero, i.size, i.bytes)) = some (some (.nilFunc), 1, 8) := by kernel_rfl
theorem info102 : (Try.prog.info? 102).map (fun i => (i.zero, i.size, i.bytes)) = some (some (.nilFunc), 1, 8) := by kernel_rfl
theorem info103 : (Try.prog.info? 103).map (fun i => (i.zero, i.size, i.bytes)) = some (some (.nilFunc), 1, 8) := by kernel_rfl
theorem info104 : (Try.prog.info? 104).map (fun i => (i.zero, i.size, i.bytes)) = some (some (.pointer none), 1, 8) := by kernel_rfl
theorem info105 : (Try.prog.info? 105).map (fun i => (i.zero, i.size, i.bytes)) = some (some (.nilFunc), 1, 8) := by kernel_rfl
theorem info106 : (Try.prog.info? 106).map (fun i => (i.zero, i.size, i.bytes)) = some (some (.pointer none), 1, 8) := by kernel_rfl
theorem info108 : (Try.prog.info? 108).map (fun i => (i.zero, i.size, i.bytes)) = some (some (.nilFunc), 1, 8) := by kernel_rfl
theorem info109 : (Try.prog.info? 109).map (fun i => (i.zero, i.size, i.bytes)) = some (some (.nilFunc), 1, 8) := by kernel_rfl
theorem info110 : (Try.prog.info? 110).map (fun i => (i.zero, i.size, i.bytes)) = some (some (.agg #[.pointer none, .pointer none, .pointer none, .string ByteArray.empty]), 4, 40) := by kernel_rfl
theorem info111 : (Try.prog.info? 111).map (fun i => (i.zero, i.size, i.bytes)) = some (some (.agg #[.pointer none, .pointer none, .pointer none, .string ByteArray.empty]), 4, 40) := by kernel_rfl
theorem info115 : (Try.prog.info? 115).map (fun i => (i.zero, i.size, i.bytes)) = some (some (.nilFunc), 1, 8) := by kernel_rfl
theorem info116 : (Try.prog.info? 116).map (fun i => (i.zero, i.size, i.bytes)) = some (some (.int .u8 0), 1, 1) := by kernel_rfl
theorem info117 : (Try.prog.info? 117).map (fun i => (i.zero, i.size, i.bytes)) = some (some (.int .u8 0), 1, 1) := by kernel_rfl
theorem info118 : (Try.prog.info? 118).map (fun i => (i.zero, i.size, i.bytes)) = some (some (.nilFunc), 1, 8) := by kernel_rfl
theorem info119 : (Try.prog.info? 119).map (fun i => (i.zero, i.size, i.bytes)) = some (some (.pointer none), 1, 8) := by kernel_rfl
theorem info120 : (Try.prog.info? 120).map (fun i => (i.zero, i.size, i.bytes)) = some (some (.int .i32 0), 1, 4) := by kernel_rfl
theorem info121 : (Try.prog.info? 121).map (fun i => (i.zero, i.size, i.bytes)) = some (some (.int .i32 0), 1, 4) := by kernel_rfl
theorem info122 : (Try.prog.info? 122).map (fun i => (i.zero, i.size, i.bytes)) = some (some (.agg #[.int .u64 0, .int .u64 0, .int .u32 0, .int .u8 0, .int .u8 0, .int .u8 0, .int .u8 0, .nilFunc, .pointer none, .int .i32 0, .int .i32 0]), 11, 48) := by kernel_rfl
theorem info123 : (Try.prog.info? 123).map (fun i => (i.zero, i.size, i.bytes)) = some (some (.agg #[.int .u64 0, .int .u64 0, .int .u32 0, .int .u8 0, .int .u8 0, .int .u8 0, .int .u8 0, .nilFunc, .pointer none, .int .i32 0, .int .i32 0]), 11, 48) := by kernel_rfl
theorem env_sl : ∀ t e, eSl t = some e → ∃ et i z, Try.prog.underlying t = some (.slice et) ∧ Try.prog.info? et = some i ∧ i.size = e.sz ∧ i.zero = some z ∧ z.cells.size = e.sz ∧ i.bytes ≤ 64 ∧
    ∀ j, j < e.sz → (e.enc e.d).getD j .junk = .v (z.cells.toList.getD j undef) ∨ ∃ e', (e.enc e.d).getD j .junk = .rd e' [] ∧ z.cells.toList.getD j undef = .slice none 0 0 := by
  intro t e h
  unfold eSl at h
  split at h
  · cases h; obtain ⟨i, h1, h2, h3, h4⟩ := info_parts info5
    exact ⟨5, i, _, Try.underlying22, h1, h3, h2, rfl, by rw [h4]; decide, fun j hj => .inl (by rcases j with _ | j <;> first | rfl | (exact absurd hj (by simp [ETy.sz])))⟩
  · cases h; obtain ⟨i, h1, h2, h3, h4⟩ := info_parts info35
    exact ⟨35, i, _, Try.underlying24, h1, h3, h2, rfl, by rw [h4]; decide, fun j hj => .inr ⟨_, by rcases j with _ | j <;> first | rfl | (exact absurd hj (by simp [ETy.sz])), by rcases j with _ | j <;> first | rfl | (exact absurd hj (by simp [ETy.sz]))⟩⟩
  · cases h; obtain ⟨i, h1, h2, h3, h4⟩ := info_parts info2
    exact ⟨2, i, _, Try.underlying35, h1, h3, h2, rfl, by rw [h4]; decide, fun j hj => .inl (by rcases j with _ | j <;> first | rfl | (exact absurd hj (by simp [ETy.sz])))⟩
  · cases h; obtain ⟨i, h1, h2, h3, h4⟩ := info_parts info29
    exact ⟨29, i, _, Try.underlying36, h1, h3, h2, rfl, by rw [h4]; decide, fun j hj => .inl (by rcases j with _ | _ | j <;> first | rfl | (exact absurd hj (by simp [ETy.sz])))⟩
  · cases h; obtain ⟨i, h1, h2, h3, h4⟩ := info_parts info67
    exact ⟨67, i, _, Try.underlying83, h1, h3, h2, rfl, by rw [h4]; decide, fun j hj => .inl (by rcases j with _ | _ | _ | j <;> first | rfl | (exact absurd hj (by simp [ETy.sz])))⟩
  · cases h; obtain ⟨i, h1, h2, h3, h4⟩ := info_parts info3
    exact ⟨3, i, _, Try.underlying99, h1, h3, h2, rfl, by rw [h4]; decide, fun j hj => .inl (by rcases j with _ | j <;> first | rfl | (exact absurd hj (by simp [ETy.sz])))⟩
  · cases h
theorem info_three {P : Program} {e : TypeId} {z : Option Value} {size bytes : Nat} (h : (P.info? e).map (fun i => (i.zero, i.size, i.bytes)) = some (z, size, bytes)) : ∃ i, P.info? e = some i ∧ i.size = size := by
  obtain ⟨i, hi, hzz⟩ := Option.map_eq_some_iff.1 h
  simp only [Prod.mk.injEq] at hzz
  exact ⟨i, hi, hzz.2.1⟩
theorem env_var : ∀ t a s, eVar t = some (a, s) → ∃ d i, Try.prog.underlying t = some d ∧ (match d with | .struct _ | .array _ _ => true | _ => false) = a ∧ Try.prog.info? t = some i ∧ i.size = s := by
  intro t a s h
  unfold eVar at h
  split at h
  · cases h; obtain ⟨i, h1, h2⟩ := info_three info1; exact ⟨_, i, Try.underlying1, rfl, h1, h2⟩
  · cases h; obtain ⟨i, h1, h2⟩ := info_three info2; exact ⟨_, i, Try.underlying2, rfl, h1, h2⟩
  · cases h; obtain ⟨i, h1, h2⟩ := info_three info3; exact ⟨_, i, Try.underlying3, rfl, h1, h2⟩
  · cases h; obtain ⟨i, h1, h2⟩ := info_three info4; exact ⟨_, i, Try.underlying4, rfl, h1, h2⟩
  · cases h; obtain ⟨i, h1, h2⟩ := info_three info5; exact ⟨_, i, Try.underlying5, rfl, h1, h2⟩
  · cases h; obtain ⟨i, h1, h2⟩ := info_three info6; exact ⟨_, i, Try.underlying6, rfl, h1, h2⟩
  · cases h; obtain ⟨i, h1, h2⟩ := info_three info7; exact ⟨_, i, Try.underlying7, rfl, h1, h2⟩
  · cases h; obtain ⟨i, h1, h2⟩ := info_three info8; exact ⟨_, i, Try.underlying8, rfl, h1, h2⟩
  · cases h; obtain ⟨i, h1, h2⟩ := info_three info9; exact ⟨_, i, Try.underlying9, rfl, h1, h2⟩
  · cases h; obtain ⟨i, h1, h2⟩ := info_three info10; exact ⟨_, i, Try.underlying10, rfl, h1, h2⟩
  · cases h; obtain ⟨i, h1, h2⟩ := info_three info11; exact ⟨_, i, Try.underlying11, rfl, h1, h2⟩
  · cases h; obtain ⟨i, h1, h2⟩ := info_three info12; exact ⟨_, i, Try.underlying12, rfl, h1, h2⟩
  · cases h; obtain ⟨i, h1, h2⟩ := info_three info13; exact ⟨_, i, Try.underlying13, rfl, h1, h2⟩
  · cases h; obtain ⟨i, h1, h2⟩ := info_three info14; exact ⟨_, i, Try.underlying14, rfl, h1, h2⟩
  · cases h; obtain ⟨i, h1, h2⟩ := info_three info15; exact ⟨_, i, Try.underlying15, rfl, h1, h2⟩
  · cases h; obtain ⟨i, h1, h2⟩ := info_three info16; exact ⟨_, i, Try.underlying16, rfl, h1, h2⟩
  · cases h; obtain ⟨i, h1, h2⟩ := info_three info17; exact ⟨_, i, Try.underlying17, rfl, h1, h2⟩
  · cases h; obtain ⟨i, h1, h2⟩ := info_three info18; exact ⟨_, i, Try.underlying18, rfl, h1, h2⟩
  · cases h; obtain ⟨i, h1, h2⟩ := info_three info19; exact ⟨_, i, Try.underlying19, rfl, h1, h2⟩
  · cases h; obtain ⟨i, h1, h2⟩ := info_three info21; exact ⟨_, i, Try.underlying21, rfl, h1, h2⟩
  · cases h; obtain ⟨i, h1, h2⟩ := info_three info22; exact ⟨_, i, Try.underlying22, rfl, h1, h2⟩
  · cases h; obtain ⟨i, h1, h2⟩ := info_three info23; exact ⟨_, i, Try.underlying23, rfl, h1, h2⟩
  · cases h; obtain ⟨i, h1, h2⟩ := info_three info24; exact ⟨_, i, Try.underlying24, rfl, h1, h2⟩
  · cases h; obtain ⟨i, h1, h2⟩ := info_three info25; exact ⟨_, i, Try.underlying25, rfl, h1, h2⟩
  · cases h; obtain ⟨i, h1, h2⟩ := info_three info26; exact ⟨_, i, Try.underlying26, rfl, h1, h2⟩
  · cases h; obtain ⟨i, h1, h2⟩ := info_three info27; exact ⟨_, i, Try.underlying27, rfl, h1, h2⟩
  · cases h; obtain ⟨i, h1, h2⟩ := info_three info28; exact ⟨_, i, Try.underlying28, rfl, h1, h2⟩
  · cases h; obtain ⟨i, h1, h2⟩ := info_three info29; exact ⟨_, i, Try.underlying29, rfl, h1, h2⟩
  · cases h; obtain ⟨i, h1, h2⟩ := info_three info30; exact ⟨_, i, Try.underlying30, rfl, h1, h2⟩
  · cases h; obtain ⟨i, h1, h2⟩ := info_three info31; exact ⟨_, i, Try.underlying31, rfl, h1, h2⟩
  · cases h; obtain ⟨i, h1, h2⟩ := info_three info33; exact ⟨_, i, Try.underlying33, rfl, h1, h2⟩
  · cases h; obtain ⟨i, h1, h2⟩ := info_three info34; exact ⟨_, i, Try.underlying34, rfl, h1, h2⟩
  · cases h; obtain ⟨i, h1, h2⟩ := info_three info35; exact ⟨_, i, Try.underlying35, rfl, h1, h2⟩
  · cases h; obtain ⟨i, h1, h2⟩ := info_three info36; exact ⟨_, i, Try.underlying36, rfl, h1, h2⟩
  · cases h; obtain ⟨i, h1, h2⟩ := info_three info38; exact ⟨_, i, Try.underlying38, rfl, h1, h2⟩
  · cases h; obtain ⟨i, h1, h2⟩ := info_three info39; exact ⟨_, i, Try.underlying39, rfl, h1, h2⟩
  · cases h; obtain ⟨i, h1, h2⟩ := info_three info40; exact ⟨_, i, Try.underlying40, rfl, h1, h2⟩
  · cases h; obtain ⟨i, h1, h2⟩ := info_three info42; exact ⟨_, i, Try.underlying42, rfl, h1, h2⟩
  · cases h; obtain ⟨i, h1, h2⟩ := info_three info44; exact ⟨_, i, Try.underlying44, rfl, h1, h2⟩
  · cases h; obtain ⟨i, h1, h2⟩ := info_three info45; exact ⟨_, i, Try.underlying45, rfl, h1, h2⟩
  · cases h; obtain ⟨i, h1, h2⟩ := info_three info46; exact ⟨_, i, Try.underlying46, rfl, h1, h2⟩
  · cases h; obtain ⟨i, h1, h2⟩ := info_three info48; exact ⟨_, i, Try.underlying48, rfl, h1, h2⟩
  · cases h; obtain ⟨i, h1, h2⟩ := info_three info49; exact ⟨_, i, Try.underlying49, rfl, h1, h2⟩
  · cases h; obtain ⟨i, h1, h2⟩ := info_three info50; exact ⟨_, i, Try.underlying50, rfl, h1, h2⟩
  · cases h; obtain ⟨i, h1, h2⟩ := info_three info51; exact ⟨_, i, Try.underlying51, rfl, h1, h2⟩
  · cases h; obtain ⟨i, h1, h2⟩ := info_three info52; exact ⟨_, i, Try.underlying52, rfl, h1, h2⟩
  · cases h; obtain ⟨i, h1, h2⟩ := info_three info53; exact ⟨_, i, Try.underlying53, rfl, h1, h2⟩
  · cases h; obtain ⟨i, h1, h2⟩ := info_three info54; exact ⟨_, i, Try.underlying54, rfl, h1, h2⟩
  · cases h; obtain ⟨i, h1, h2⟩ := info_three info55; exact ⟨_, i, Try.underlying55, rfl, h1, h2⟩
  · cases h; obtain ⟨i, h1, h2⟩ := info_three info56; exact ⟨_, i, Try.underlying56, rfl, h1, h2⟩
  · cases h; obtain ⟨i, h1, h2⟩ := info_three info57; exact ⟨_, i, Try.underlying57, rfl, h1, h2⟩
  · cases h; obtain ⟨i, h1, h2⟩ := info_three info58; exact ⟨_, i, Try.underlying58, rfl, h1, h2⟩
  · cases h; obtain ⟨i, h1, h2⟩ := info_three info59; exact ⟨_, i, Try.underlying59, rfl, h1, h2⟩
  · cases h; obtain ⟨i, h1, h2⟩ := info_three info60; exact ⟨_, i, Try.underlying60, rfl, h1, h2⟩
  · cases h; obtain ⟨i, h1, h2⟩ := info_three info61; exact ⟨_, i, Try.underlying61, rfl, h1, h2⟩
  · cases h; obtain ⟨i, h1, h2⟩ := info_three info62; exact ⟨_, i, Try.underlying62, rfl, h1, h2⟩
  · cases h; obtain ⟨i, h1, h2⟩ := info_three info63; exact ⟨_, i, Try.underlying63, rfl, h1, h2⟩
  · cases h; obtain ⟨i, h1, h2⟩ := info_three info64; exact ⟨_, i, Try.underlying64, rfl, h1, h2⟩
  · cases h; obtain ⟨i, h1, h2⟩ := info_three info65; exact ⟨_, i, Try.underlying65, rfl, h1, h2⟩
  · cases h; obtain ⟨i, h1, h2⟩ := info_three info66; exact ⟨_, i, Try.underlying66, rfl, h1, h2⟩
  · cases h; obtain ⟨i, h1, h2⟩ := info_three info67; exact ⟨_, i, Try.underlying67, rfl, h1, h2⟩
  · cases h; obtain ⟨i, h1, h2⟩ := info_three info69; exact ⟨_, i, Try.underlying69, rfl, h1, h2⟩
  · cases h; obtain ⟨i, h1, h2⟩ := info_three info70; exact ⟨_, i, Try.underlying70, rfl, h1, h2⟩
  · cases h; obtain ⟨i, h1, h2⟩ := info_three info71; exact ⟨_, i, Try.underlying71, rfl, h1, h2⟩
  · cases h; obtain ⟨i, h1, h2⟩ := info_three info72; exact ⟨_, i, Try.underlying72, rfl, h1, h2⟩
  · cases h; obtain ⟨i, h1, h2⟩ := info_three info73; exact ⟨_, i, Try.underlying73, rfl, h1, h2⟩
  · cases h; obtain ⟨i, h1, h2⟩ := info_three info74; exact ⟨_, i, Try.underlying74, rfl, h1, h2⟩
  · cases h; obtain ⟨i, h1, h2⟩ := info_three info75; exact ⟨_, i, Try.underlying75, rfl, h1, h2⟩
  · cases h; obtain ⟨i, h1, h2⟩ := info_three info76; exact ⟨_, i, Try.underlying76, rfl, h1, h2⟩
  · cases h; obtain ⟨i, h1, h2⟩ := info_three info77; exact ⟨_, i, Try.underlying77, rfl, h1, h2⟩
  · cases h; obtain ⟨i, h1, h2⟩ := info_three info78; exact ⟨_, i, Try.underlying78, rfl, h1, h2⟩
  · cases h; obtain ⟨i, h1, h2⟩ := info_three info79; exact ⟨_, i, Try.underlying79, rfl, h1, h2⟩
  · cases h; obtain ⟨i, h1, h2⟩ := info_three info80; exact ⟨_, i, Try.underlying80, rfl, h1, h2⟩
  · cases h; obtain ⟨i, h1, h2⟩ := info_three info81; exact ⟨_, i, Try.underlying81, rfl, h1, h2⟩
  · cases h; obtain ⟨i, h1, h2⟩ := info_three info82; exact ⟨_, i, Try.underlying82, rfl, h1, h2⟩
  · cases h; obtain ⟨i, h1, h2⟩ := info_three info83; exact ⟨_, i, Try.underlying83, rfl, h1, h2⟩
  · cases h; obtain ⟨i, h1, h2⟩ := info_three info84; exact ⟨_, i, Try.underlying84, rfl, h1, h2⟩
  · cases h; obtain ⟨i, h1, h2⟩ := info_three info85; exact ⟨_, i, Try.underlying85, rfl, h1, h2⟩
  · cases h; obtain ⟨i, h1, h2⟩ := info_three info86; exact ⟨_, i, Try.underlying86, rfl, h1, h2⟩
  · cases h; obtain ⟨i, h1, h2⟩ := info_three info87; exact ⟨_, i, Try.underlying87, rfl, h1, h2⟩
  · cases h; obtain ⟨i, h1, h2⟩ := info_three info88; exact ⟨_, i, Try.underlying88, rfl, h1, h2⟩
  · cases h; obtain ⟨i, h1, h2⟩ := info_three info89; exact ⟨_, i, Try.underlying89, rfl, h1, h2⟩
  · cases h; obtain ⟨i, h1, h2⟩ := info_three info91; exact ⟨_, i, Try.underlying91, rfl, h1, h2⟩
  · cases h; obtain ⟨i, h1, h2⟩ := info_three info92; exact ⟨_, i, Try.underlying92, rfl, h1, h2⟩
  · cases h; obtain ⟨i, h1, h2⟩ := info_three info93; exact ⟨_, i, Try.underlying93, rfl, h1, h2⟩
  · cases h; obtain ⟨i, h1, h2⟩ := info_three info95; exact ⟨_, i, Try.underlying95, rfl, h1, h2⟩
  · cases h; obtain ⟨i, h1, h2⟩ := info_three info96; exact ⟨_, i, Try.underlying96, rfl, h1, h2⟩
  · cases h; obtain ⟨i, h1, h2⟩ := info_three info97; exact ⟨_, i, Try.underlying97, rfl, h1, h2⟩
  · cases h; obtain ⟨i, h1, h2⟩ := info_three info98; exact ⟨_, i, Try.underlying98, rfl, h1, h2⟩
  · cases h; obtain ⟨i, h1, h2⟩ := info_three info99; exact ⟨_, i, Try.underlying99, rfl, h1, h2⟩
  · cases h; obtain ⟨i, h1, h2⟩ := info_three info100; exact ⟨_, i, Try.underlying100, rfl, h1, h2⟩
  · cases h; obtain ⟨i, h1, h2⟩ := info_three info101; exact ⟨_, i, Try.underlying101, rfl, h1, h2⟩
  · cases h; obtain ⟨i, h1, h2⟩ := info_three info102; exact ⟨_, i, Try.underlying102, rfl, h1, h2⟩
  · cases h; obtain ⟨i, h1, h2⟩ := info_three info103; exact ⟨_, i, Try.underlying103, rfl, h1, h2⟩
  · cases h; obtain ⟨i, h1, h2⟩ := info_three info104; exact ⟨_, i, Try.underlying104, rfl, h1, h2⟩
  · cases h; obtain ⟨i, h1, h2⟩ := info_three info105; exact ⟨_, i, Try.underlying105, rfl, h1, h2⟩
  · cases h; obtain ⟨i, h1, h2⟩ := info_three info106; exact ⟨_, i, Try.underlying106, rfl, h1, h2⟩
  · cases h; obtain ⟨i, h1, h2⟩ := info_three info108; exact ⟨_, i, Try.underlying108, rfl, h1, h2⟩
  · cases h; obtain ⟨i, h1, h2⟩ := info_three info109; exact ⟨_, i, Try.underlying109, rfl, h1, h2⟩
  · cases h; obtain ⟨i, h1, h2⟩ := info_three info110; exact ⟨_, i, Try.underlying110, rfl, h1, h2⟩
  · cases h; obtain ⟨i, h1, h2⟩ := info_three info111; exact ⟨_, i, Try.underlying111, rfl, h1, h2⟩
  · cases h; obtain ⟨i, h1, h2⟩ := info_three info115; exact ⟨_, i, Try.underlying115, rfl, h1, h2⟩
  · cases h; obtain ⟨i, h1, h2⟩ := info_three info116; exact ⟨_, i, Try.underlying116, rfl, h1, h2⟩
  · cases h; obtain ⟨i, h1, h2⟩ := info_three info117; exact ⟨_, i, Try.underlying117, rfl, h1, h2⟩
  · cases h; obtain ⟨i, h1, h2⟩ := info_three info118; exact ⟨_, i, Try.underlying118, rfl, h1, h2⟩
  · cases h; obtain ⟨i, h1, h2⟩ := info_three info119; exact ⟨_, i, Try.underlying119, rfl, h1, h2⟩
  · cases h; obtain ⟨i, h1, h2⟩ := info_three info120; exact ⟨_, i, Try.underlying120, rfl, h1, h2⟩
  · cases h; obtain ⟨i, h1, h2⟩ := info_three info121; exact ⟨_, i, Try.underlying121, rfl, h1, h2⟩
  · cases h; obtain ⟨i, h1, h2⟩ := info_three info122; exact ⟨_, i, Try.underlying122, rfl, h1, h2⟩
  · cases h; obtain ⟨i, h1, h2⟩ := info_three info123; exact ⟨_, i, Try.underlying123, rfl, h1, h2⟩
  · cases h
theorem env_fld : ∀ t f o, eFld t f = some o → ∃ fs fl i, Try.prog.underlying t = some (.struct fs) ∧ fs[f]? = some fl ∧ fl.offset = o ∧ Try.prog.info? fl.type = some i ∧ i.size ≠ 0 := by
  intro t f o h
  unfold eFld at h
  split at h
  · cases h; obtain ⟨i, h1, h2⟩ := info_three info2; exact ⟨_, _, i, Try.underlying7, rfl, rfl, h1, by rw [h2]; decide⟩
  · cases h; obtain ⟨i, h1, h2⟩ := info_three info3; exact ⟨_, _, i, Try.underlying7, rfl, rfl, h1, by rw [h2]; decide⟩
  · cases h; obtain ⟨i, h1, h2⟩ := info_three info4; exact ⟨_, _, i, Try.underlying7, rfl, rfl, h1, by rw [h2]; decide⟩
  · cases h; obtain ⟨i, h1, h2⟩ := info_three info6; exact ⟨_, _, i, Try.underlying7, rfl, rfl, h1, by rw [h2]; decide⟩
  · cases h; obtain ⟨i, h1, h2⟩ := info_three info2; exact ⟨_, _, i, Try.underlying8, rfl, rfl, h1, by rw [h2]; decide⟩
  · cases h; obtain ⟨i, h1, h2⟩ := info_three info3; exact ⟨_, _, i, Try.underlying8, rfl, rfl, h1, by rw [h2]; decide⟩
  · cases h; obtain ⟨i, h1, h2⟩ := info_three info4; exact ⟨_, _, i, Try.underlying8, rfl, rfl, h1, by rw [h2]; decide⟩
  · cases h; obtain ⟨i, h1, h2⟩ := info_three info6; exact ⟨_, _, i, Try.underlying8, rfl, rfl, h1, by rw [h2]; decide⟩
  · cases h; obtain ⟨i, h1, h2⟩ := info_three info9; exact ⟨_, _, i, Try.underlying13, rfl, rfl, h1, by rw [h2]; decide⟩
  · cases h; obtain ⟨i, h1, h2⟩ := info_three info12; exact ⟨_, _, i, Try.underlying13, rfl, rfl, h1, by rw [h2]; decide⟩
  · cases h; obtain ⟨i, h1, h2⟩ := info_three info9; exact ⟨_, _, i, Try.underlying14, rfl, rfl, h1, by rw [h2]; decide⟩
  · cases h; obtain ⟨i, h1, h2⟩ := info_three info12; exact ⟨_, _, i, Try.underlying14, rfl, rfl, h1, by rw [h2]; decide⟩
  · cases h; obtain ⟨i, h1, h2⟩ := info_three info17; exact ⟨_, _, i, Try.underlying18, rfl, rfl, h1, by rw [h2]; decide⟩
  · cases h; obtain ⟨i, h1, h2⟩ := info_three info17; exact ⟨_, _, i, Try.underlying19, rfl, rfl, h1, by rw [h2]; decide⟩
  · cases h; obtain ⟨i, h1, h2⟩ := info_three info24; exact ⟨_, _, i, Try.underlying25, rfl, rfl, h1, by rw [h2]; decide⟩
  · cases h; obtain ⟨i, h1, h2⟩ := info_three info24; exact ⟨_, _, i, Try.underlying26, rfl, rfl, h1, by rw [h2]; decide⟩
  · cases h; obtain ⟨i, h1, h2⟩ := info_three info2; exact ⟨_, _, i, Try.underlying28, rfl, rfl, h1, by rw [h2]; decide⟩
  · cases h; obtain ⟨i, h1, h2⟩ := info_three info2; exact ⟨_, _, i, Try.underlying28, rfl, rfl, h1, by rw [h2]; decide⟩
  · cases h; obtain ⟨i, h1, h2⟩ := info_three info2; exact ⟨_, _, i, Try.underlying29, rfl, rfl, h1, by rw [h2]; decide⟩
  · cases h; obtain ⟨i, h1, h2⟩ := info_three info2; exact ⟨_, _, i, Try.underlying29, rfl, rfl, h1, by rw [h2]; decide⟩
  · cases h; obtain ⟨i, h1, h2⟩ := info_three info29; exact ⟨_, _, i, Try.underlying66, rfl, rfl, h1, by rw [h2]; decide⟩
  · cases h; obtain ⟨i, h1, h2⟩ := info_three info3; exact ⟨_, _, i, Try.underlying66, rfl, rfl, h1, by rw [h2]; decide⟩
  · cases h; obtain ⟨i, h1, h2⟩ := info_three info29; exact ⟨_, _, i, Try.underlying67, rfl, rfl, h1, by rw [h2]; decide⟩
  · cases h; obtain ⟨i, h1, h2⟩ := info_three info3; exact ⟨_, _, i, Try.underlying67, rfl, rfl, h1, by rw [h2]; decide⟩
  · cases h; obtain ⟨i, h1, h2⟩ := info_three info22; exact ⟨_, _, i, Try.underlying76, rfl, rfl, h1, by rw [h2]; decide⟩
  · cases h; obtain ⟨i, h1, h2⟩ := info_three info3; exact ⟨_, _, i, Try.underlying76, rfl, rfl, h1, by rw [h2]; decide⟩
  · cases h; obtain ⟨i, h1, h2⟩ := info_three info75; exact ⟨_, _, i, Try.underlying76, rfl, rfl, h1, by rw [h2]; decide⟩
  · cases h; obtain ⟨i, h1, h2⟩ := info_three info22; exact ⟨_, _, i, Try.underlying77, rfl, rfl, h1, by rw [h2]; decide⟩
  · cases h; obtain ⟨i, h1, h2⟩ := info_three info3; exact ⟨_, _, i, Try.underlying77, rfl, rfl, h1, by rw [h2]; decide⟩
  · cases h; obtain ⟨i, h1, h2⟩ := info_three info75; exact ⟨_, _, i, Try.underlying77, rfl, rfl, h1, by rw [h2]; decide⟩
  · cases h; obtain ⟨i, h1, h2⟩ := info_three info17; exact ⟨_, _, i, Try.underlying110, rfl, rfl, h1, by rw [h2]; decide⟩
  · cases h; obtain ⟨i, h1, h2⟩ := info_three info17; exact ⟨_, _, i, Try.underlying110, rfl, rfl, h1, by rw [h2]; decide⟩
  · cases h; obtain ⟨i, h1, h2⟩ := info_three info17; exact ⟨_, _, i, Try.underlying110, rfl, rfl, h1, by rw [h2]; decide⟩
  · cases h; obtain ⟨i, h1, h2⟩ := info_three info9; exact ⟨_, _, i, Try.underlying110, rfl, rfl, h1, by rw [h2]; decide⟩
  · cases h; obtain ⟨i, h1, h2⟩ := info_three info17; exact ⟨_, _, i, Try.underlying111, rfl, rfl, h1, by rw [h2]; decide⟩
  · cases h; obtain ⟨i, h1, h2⟩ := info_three info17; exact ⟨_, _, i, Try.underlying111, rfl, rfl, h1, by rw [h2]; decide⟩
  · cases h; obtain ⟨i, h1, h2⟩ := info_three info17; exact ⟨_, _, i, Try.underlying111, rfl, rfl, h1, by rw [h2]; decide⟩
  · cases h; obtain ⟨i, h1, h2⟩ := info_three info9; exact ⟨_, _, i, Try.underlying111, rfl, rfl, h1, by rw [h2]; decide⟩
  · cases h; obtain ⟨i, h1, h2⟩ := info_three info12; exact ⟨_, _, i, Try.underlying122, rfl, rfl, h1, by rw [h2]; decide⟩
  · cases h; obtain ⟨i, h1, h2⟩ := info_three info12; exact ⟨_, _, i, Try.underlying122, rfl, rfl, h1, by rw [h2]; decide⟩
  · cases h; obtain ⟨i, h1, h2⟩ := info_three info97; exact ⟨_, _, i, Try.underlying122, rfl, rfl, h1, by rw [h2]; decide⟩
  · cases h; obtain ⟨i, h1, h2⟩ := info_three info116; exact ⟨_, _, i, Try.underlying122, rfl, rfl, h1, by rw [h2]; decide⟩
  · cases h; obtain ⟨i, h1, h2⟩ := info_three info5; exact ⟨_, _, i, Try.underlying122, rfl, rfl, h1, by rw [h2]; decide⟩
  · cases h; obtain ⟨i, h1, h2⟩ := info_three info5; exact ⟨_, _, i, Try.underlying122, rfl, rfl, h1, by rw [h2]; decide⟩
  · cases h; obtain ⟨i, h1, h2⟩ := info_three info117; exact ⟨_, _, i, Try.underlying122, rfl, rfl, h1, by rw [h2]; decide⟩
  · cases h; obtain ⟨i, h1, h2⟩ := info_three info118; exact ⟨_, _, i, Try.underlying122, rfl, rfl, h1, by rw [h2]; decide⟩
  · cases h; obtain ⟨i, h1, h2⟩ := info_three info119; exact ⟨_, _, i, Try.underlying122, rfl, rfl, h1, by rw [h2]; decide⟩
  · cases h; obtain ⟨i, h1, h2⟩ := info_three info120; exact ⟨_, _, i, Try.underlying122, rfl, rfl, h1, by rw [h2]; decide⟩
  · cases h; obtain ⟨i, h1, h2⟩ := info_three info121; exact ⟨_, _, i, Try.underlying122, rfl, rfl, h1, by rw [h2]; decide⟩
  · cases h; obtain ⟨i, h1, h2⟩ := info_three info12; exact ⟨_, _, i, Try.underlying123, rfl, rfl, h1, by rw [h2]; decide⟩
  · cases h; obtain ⟨i, h1, h2⟩ := info_three info12; exact ⟨_, _, i, Try.underlying123, rfl, rfl, h1, by rw [h2]; decide⟩
  · cases h; obtain ⟨i, h1, h2⟩ := info_three info97; exact ⟨_, _, i, Try.underlying123, rfl, rfl, h1, by rw [h2]; decide⟩
  · cases h; obtain ⟨i, h1, h2⟩ := info_three info116; exact ⟨_, _, i, Try.underlying123, rfl, rfl, h1, by rw [h2]; decide⟩
  · cases h; obtain ⟨i, h1, h2⟩ := info_three info5; exact ⟨_, _, i, Try.underlying123, rfl, rfl, h1, by rw [h2]; decide⟩
  · cases h; obtain ⟨i, h1, h2⟩ := info_three info5; exact ⟨_, _, i, Try.underlying123, rfl, rfl, h1, by rw [h2]; decide⟩
  · cases h; obtain ⟨i, h1, h2⟩ := info_three info117; exact ⟨_, _, i, Try.underlying123, rfl, rfl, h1, by rw [h2]; decide⟩
  · cases h; obtain ⟨i, h1, h2⟩ := info_three info118; exact ⟨_, _, i, Try.underlying123, rfl, rfl, h1, by rw [h2]; decide⟩
  · cases h; obtain ⟨i, h1, h2⟩ := info_three info119; exact ⟨_, _, i, Try.underlying123, rfl, rfl, h1, by rw [h2]; decide⟩
  · cases h; obtain ⟨i, h1, h2⟩ := info_three info120; exact ⟨_, _, i, Try.underlying123, rfl, rfl, h1, by rw [h2]; decide⟩
  · cases h; obtain ⟨i, h1, h2⟩ := info_three info121; exact ⟨_, _, i, Try.underlying123, rfl, rfl, h1, by rw [h2]; decide⟩
  · cases h
theorem env_zero : ∀ t cs, eZero t = some cs → ∃ i z, Try.prog.info? t = some i ∧ i.zero = some z ∧ z.cells.toList = cs := by
  intro t cs h
  unfold eZero at h
  split at h
  · cases h; obtain ⟨i, h1, h2, _⟩ := info_parts info1; exact ⟨i, _, h1, h2, rfl⟩
  · cases h; obtain ⟨i, h1, h2, _⟩ := info_parts info2; exact ⟨i, _, h1, h2, rfl⟩
  · cases h; obtain ⟨i, h1, h2, _⟩ := info_parts info3; exact ⟨i, _, h1, h2, rfl⟩
  · cases h; obtain ⟨i, h1, h2, _⟩ := info_parts info4; exact ⟨i, _, h1, h2, rfl⟩
  · cases h; obtain ⟨i, h1, h2, _⟩ := info_parts info5; exact ⟨i, _, h1, h2, rfl⟩
  · cases h; obtain ⟨i, h1, h2, _⟩ := info_parts info6; exact ⟨i, _, h1, h2, rfl⟩
  · cases h; obtain ⟨i, h1, h2, _⟩ := info_parts info7; exact ⟨i, _, h1, h2, rfl⟩
  · cases h; obtain ⟨i, h1, h2, _⟩ := info_parts info8; exact ⟨i, _, h1, h2, rfl⟩
  · cases h; obtain ⟨i, h1, h2, _⟩ := info_parts info9; exact ⟨i, _, h1, h2, rfl⟩
  · cases h; obtain ⟨i, h1, h2, _⟩ := info_parts info10; exact ⟨i, _, h1, h2, rfl⟩
  · cases h; obtain ⟨i, h1, h2, _⟩ := info_parts info11; exact ⟨i, _, h1, h2, rfl⟩
  · cases h; obtain ⟨i, h1, h2, _⟩ := info_parts info12; exact ⟨i, _, h1, h2, rfl⟩
  · cases h; obtain ⟨i, h1, h2, _⟩ := info_parts info13; exact ⟨i, _, h1, h2, rfl⟩
  · cases h; obtain ⟨i, h1, h2, _⟩ := info_parts info14; exact ⟨i, _, h1, h2, rfl⟩
  · cases h; obtain ⟨i, h1, h2, _⟩ := info_parts info15; exact ⟨i, _, h1, h2, rfl⟩
  · cases h; obtain ⟨i, h1, h2, _⟩ := info_parts info16; exact ⟨i, _, h1, h2, rfl⟩
  · cases h; obtain ⟨i, h1, h2, _⟩ := info_parts info17; exact ⟨i, _, h1, h2, rfl⟩
  · cases h; obtain ⟨i, h1, h2, _⟩ := info_parts info18; exact ⟨i, _, h1, h2, rfl⟩
  · cases h; obtain ⟨i, h1, h2, _⟩ := info_parts info19; exact ⟨i, _, h1, h2, rfl⟩
  · cases h; obtain ⟨i, h1, h2, _⟩ := info_parts info21; exact ⟨i, _, h1, h2, rfl⟩
  · cases h; obtain ⟨i, h1, h2, _⟩ := info_parts info22; exact ⟨i, _, h1, h2, rfl⟩
  · cases h; obtain ⟨i, h1, h2, _⟩ := info_parts info23; exact ⟨i, _, h1, h2, rfl⟩
  · cases h; obtain ⟨i, h1, h2, _⟩ := info_parts info24; exact ⟨i, _, h1, h2, rfl⟩
  · cases h; obtain ⟨i, h1, h2, _⟩ := info_parts info25; exact ⟨i, _, h1, h2, rfl⟩
  · cases h; obtain ⟨i, h1, h2, _⟩ := info_parts info26; exact ⟨i, _, h1, h2, rfl⟩
  · cases h; obtain ⟨i, h1, h2, _⟩ := info_parts info27; exact ⟨i, _, h1, h2, rfl⟩
  · cases h; obtain ⟨i, h1, h2, _⟩ := info_parts info28; exact ⟨i, _, h1, h2, rfl⟩
  · cases h; obtain ⟨i, h1, h2, _⟩ := info_parts info29; exact ⟨i, _, h1, h2, rfl⟩
  · cases h; obtain ⟨i, h1, h2, _⟩ := info_parts info30; exact ⟨i, _, h1, h2, rfl⟩
  · cases h; obtain ⟨i, h1, h2, _⟩ := info_parts info31; exact ⟨i, _, h1, h2, rfl⟩
  · cases h; obtain ⟨i, h1, h2, _⟩ := info_parts info33; exact ⟨i, _, h1, h2, rfl⟩
  · cases h; obtain ⟨i, h1, h2, _⟩ := info_parts info34; exact ⟨i, _, h1, h2, rfl⟩
  · cases h; obtain ⟨i, h1, h2, _⟩ := info_parts info35; exact ⟨i, _, h1, h2, rfl⟩
  · cases h; obtain ⟨i, h1, h2, _⟩ := info_parts info36; exact ⟨i, _, h1, h2, rfl⟩
  · cases h; obtain ⟨i, h1, h2, _⟩ := info_parts info38; exact ⟨i, _, h1, h2, rfl⟩
  · cases h; obtain ⟨i, h1, h2, _⟩ := info_parts info39; exact ⟨i, _, h1, h2, rfl⟩
  · cases h; obtain ⟨i, h1, h2, _⟩ := info_parts info40; exact ⟨i, _, h1, h2, rfl⟩
  · cases h; obtain ⟨i, h1, h2, _⟩ := info_parts info42; exact ⟨i, _, h1, h2, rfl⟩
  · cases h; obtain ⟨i, h1, h2, _⟩ := info_parts info44; exact ⟨i, _, h1, h2, rfl⟩
  · cases h; obtain ⟨i, h1, h2, _⟩ := info_parts info45; exact ⟨i, _, h1, h2, rfl⟩
  · cases h; obtain ⟨i, h1, h2, _⟩ := info_parts info46; exact ⟨i, _, h1, h2, rfl⟩
  · cases h; obtain ⟨i, h1, h2, _⟩ := info_parts info48; exact ⟨i, _, h1, h2, rfl⟩
  · cases h; obtain ⟨i, h1, h2, _⟩ := info_parts info49; exact ⟨i, _, h1, h2, rfl⟩
  · cases h; obtain ⟨i, h1, h2, _⟩ := info_parts info50; exact ⟨i, _, h1, h2, rfl⟩
  · cases h; obtain ⟨i, h1, h2, _⟩ := info_parts info51; exact ⟨i, _, h1, h2, rfl⟩
  · cases h; obtain ⟨i, h1, h2, _⟩ := info_parts info52; exact ⟨i, _, h1, h2, rfl⟩
  · cases h; obtain ⟨i, h1, h2, _⟩ := info_parts info53; exact ⟨i, _, h1, h2, rfl⟩
  · cases h; obtain ⟨i, h1, h2, _⟩ := info_parts info54; exact ⟨i, _, h1, h2, rfl⟩
  · cases h; obtain ⟨i, h1, h2, _⟩ := info_parts info55; exact ⟨i, _, h1, h2, rfl⟩
  · cases h; obtain ⟨i, h1, h2, _⟩ := info_parts info56; exact ⟨i, _, h1, h2, rfl⟩
  · cases h; obtain ⟨i, h1, h2, _⟩ := info_parts info57; exact ⟨i, _, h1, h2, rfl⟩
  · cases h; obtain ⟨i, h1, h2, _⟩ := info_parts info58; exact ⟨i, _, h1, h2, rfl⟩
  · cases h; obtain ⟨i, h1, h2, _⟩ := info_parts info59; exact ⟨i, _, h1, h2, rfl⟩
  · cases h; obtain ⟨i, h1, h2, _⟩ := info_parts info60; exact ⟨i, _, h1, h2, rfl⟩
  · cases h; obtain ⟨i, h1, h2, _⟩ := info_parts info61; exact ⟨i, _, h1, h2, rfl⟩
  · cases h; obtain ⟨i, h1, h2, _⟩ := info_parts info62; exact ⟨i, _, h1, h2, rfl⟩
  · cases h; obtain ⟨i, h1, h2, _⟩ := info_parts info63; exact ⟨i, _, h1, h2, rfl⟩
  · cases h; obtain ⟨i, h1, h2, _⟩ := info_parts info64; exact ⟨i, _, h1, h2, rfl⟩
  · cases h; obtain ⟨i, h1, h2, _⟩ := info_parts info65; exact ⟨i, _, h1, h2, rfl⟩
  · cases h; obtain ⟨i, h1, h2, _⟩ := info_parts info66; exact ⟨i, _, h1, h2, rfl⟩
  · cases h; obtain ⟨i, h1, h2, _⟩ := info_parts info67; exact ⟨i, _, h1, h2, rfl⟩
  · cases h; obtain ⟨i, h1, h2, _⟩ := info_parts info69; exact ⟨i, _, h1, h2, rfl⟩
  · cases h; obtain ⟨i, h1, h2, _⟩ := info_parts info70; exact ⟨i, _, h1, h2, rfl⟩
  · cases h; obtain ⟨i, h1, h2, _⟩ := info_parts info71; exact ⟨i, _, h1, h2, rfl⟩
  · cases h; obtain ⟨i, h1, h2, _⟩ := info_parts info72; exact ⟨i, _, h1, h2, rfl⟩
  · cases h; obtain ⟨i, h1, h2, _⟩ := info_parts info73; exact ⟨i, _, h1, h2, rfl⟩
  · cases h; obtain ⟨i, h1, h2, _⟩ := info_parts info74; exact ⟨i, _, h1, h2, rfl⟩
  · cases h; obtain ⟨i, h1, h2, _⟩ := info_parts info75; exact ⟨i, _, h1, h2, rfl⟩
  · cases h; obtain ⟨i, h1, h2, _⟩ := info_parts info76; exact ⟨i, _, h1, h2, rfl⟩
  · cases h; obtain ⟨i, h1, h2, _⟩ := info_parts info77; exact ⟨i, _, h1, h2, rfl⟩
  · cases h; obtain ⟨i, h1, h2, _⟩ := info_parts info78; exact ⟨i, _, h1, h2, rfl⟩
  · cases h; obtain ⟨i, h1, h2, _⟩ := info_parts info79; exact ⟨i, _, h1, h2, rfl⟩
  · cases h; obtain ⟨i, h1, h2, _⟩ := info_parts info80; exact ⟨i, _, h1, h2, rfl⟩
  · cases h; obtain ⟨i, h1, h2, _⟩ := info_parts info81; exact ⟨i, _, h1, h2, rfl⟩
  · cases h; obtain ⟨i, h1, h2, _⟩ := info_parts info82; exact ⟨i, _, h1, h2, rfl⟩
  · cases h; obtain ⟨i, h1, h2, _⟩ := info_parts info83; exact ⟨i, _, h1, h2, rfl⟩
  · cases h; obtain ⟨i, h1, h2, _⟩ := info_parts info84; exact ⟨i, _, h1, h2, rfl⟩
  · cases h; obtain ⟨i, h1, h2, _⟩ := info_parts info85; exact ⟨i, _, h1, h2, rfl⟩
  · cases h; obtain ⟨i, h1, h2, _⟩ := info_parts info86; exact ⟨i, _, h1, h2, rfl⟩
  · cases h; obtain ⟨i, h1, h2, _⟩ := info_parts info87; exact ⟨i, _, h1, h2, rfl⟩
  · cases h; obtain ⟨i, h1, h2, _⟩ := info_parts info88; exact ⟨i, _, h1, h2, rfl⟩
  · cases h; obtain ⟨i, h1, h2, _⟩ := info_parts info89; exact ⟨i, _, h1, h2, rfl⟩
  · cases h; obtain ⟨i, h1, h2, _⟩ := info_parts info91; exact ⟨i, _, h1, h2, rfl⟩
  · cases h; obtain ⟨i, h1, h2, _⟩ := info_parts info92; exact ⟨i, _, h1, h2, rfl⟩
  · cases h; obtain ⟨i, h1, h2, _⟩ := info_parts info93; exact ⟨i, _, h1, h2, rfl⟩
  · cases h; obtain ⟨i, h1, h2, _⟩ := info_parts info95; exact ⟨i, _, h1, h2, rfl⟩
  · cases h; obtain ⟨i, h1, h2, _⟩ := info_parts info96; exact ⟨i, _, h1, h2, rfl⟩
  · cases h; obtain ⟨i, h1, h2, _⟩ := info_parts info97; exact ⟨i, _, h1, h2, rfl⟩
  · cases h; obtain ⟨i, h1, h2, _⟩ := info_parts info98; exact ⟨i, _, h1, h2, rfl⟩
  · cases h; obtain ⟨i, h1, h2, _⟩ := info_parts info99; exact ⟨i, _, h1, h2, rfl⟩
  · cases h; obtain ⟨i, h1, h2, _⟩ := info_parts info100; exact ⟨i, _, h1, h2, rfl⟩
  · cases h; obtain ⟨i, h1, h2, _⟩ := info_parts info101; exact ⟨i, _, h1, h2, rfl⟩
  · cases h; obtain ⟨i, h1, h2, _⟩ := info_parts info102; exact ⟨i, _, h1, h2, rfl⟩
  · cases h; obtain ⟨i, h1, h2, _⟩ := info_parts info103; exact ⟨i, _, h1, h2, rfl⟩
  · cases h; obtain ⟨i, h1, h2, _⟩ := info_parts info104; exact ⟨i, _, h1, h2, rfl⟩
  · cases h; obtain ⟨i, h1, h2, _⟩ := info_parts info105; exact ⟨i, _, h1, h2, rfl⟩
  · cases h; obtain ⟨i, h1, h2, _⟩ := info_parts info106; exact ⟨i, _, h1, h2, rfl⟩
  · cases h; obtain ⟨i, h1, h2, _⟩ := info_parts info108; exact ⟨i, _, h1, h2, rfl⟩
  · cases h; obtain ⟨i, h1, h2, _⟩ := info_parts info109; exact ⟨i, _, h1, h2, rfl⟩
  · cases h; obtain ⟨i, h1, h2, _⟩ := info_parts info110; exact ⟨i, _, h1, h2, rfl⟩
  · cases h; obtain ⟨i, h1, h2, _⟩ := info_parts info111; exact ⟨i, _, h1, h2, rfl⟩
  · cases h; obtain ⟨i, h1, h2, _⟩ := info_parts info115; exact ⟨i, _, h1, h2, rfl⟩
  · cases h; obtain ⟨i, h1, h2, _⟩ := info_parts info116; exact ⟨i, _, h1, h2, rfl⟩
  · cases h; obtain ⟨i, h1, h2, _⟩ := info_parts info117; exact ⟨i, _, h1, h2, rfl⟩
  · cases h; obtain ⟨i, h1, h2, _⟩ := info_parts info118; exact ⟨i, _, h1, h2, rfl⟩
  · cases h; obtain ⟨i, h1, h2, _⟩ := info_parts info119; exact ⟨i, _, h1, h2, rfl⟩
  · cases h; obtain ⟨i, h1, h2, _⟩ := info_parts info120; exact ⟨i, _, h1, h2, rfl⟩
  · cases h; obtain ⟨i, h1, h2, _⟩ := info_parts info121; exact ⟨i, _, h1, h2, rfl⟩
  · cases h; obtain ⟨i, h1, h2, _⟩ := info_parts info122; exact ⟨i, _, h1, h2, rfl⟩
  · cases h; obtain ⟨i, h1, h2, _⟩ := info_parts info123; exact ⟨i, _, h1, h2, rfl⟩
  · cases h
theorem env_knd : ∀ t d, eKnd t = some d → Try.prog.underlying t = some d := by
  intro t d h
  unfold eKnd at h
  split at h
  · cases h; exact Try.underlying2
  · cases h; exact Try.underlying3
  · cases h; exact Try.underlying4
  · cases h; exact Try.underlying5
  · cases h; exact Try.underlying6
  · cases h; exact Try.underlying9
  · cases h; exact Try.underlying10
  · cases h; exact Try.underlying11
  · cases h; exact Try.underlying12
  · cases h; exact Try.underlying21
  · cases h; exact Try.underlying49
  · cases h; exact Try.underlying75
  · cases h; exact Try.underlying89
  · cases h; exact Try.underlying97
  · cases h; exact Try.underlying100
  · cases h; exact Try.underlying116
  · cases h; exact Try.underlying117
  · cases h; exact Try.underlying120
  · cases h; exact Try.underlying121
  · cases h
theorem env_bld : ∀ t l, eBld t = some l → ∀ (parts : Array (Nat × Value)) w, ∃ i z, Try.prog.info? t = some i ∧ i.zero = some z ∧
    ∀ cells, Instr.fill (fun k => l[k]?) z.cells parts.toList = some cells → (Instr.build t parts).run Try.prog w = .ok (.agg cells) w := by
  intro t l h parts w
  unfold eBld at h
  split at h
  · cases h; obtain ⟨i, h1, h2, _⟩ := info_parts info7; exact ⟨i, _, h1, h2, build_run h1 h2 Try.underlying7 (fun w => by kernel_rfl) w⟩
  · cases h; obtain ⟨i, h1, h2, _⟩ := info_parts info8; exact ⟨i, _, h1, h2, build_run h1 h2 Try.underlying8 (fun w => by kernel_rfl) w⟩
  · cases h; obtain ⟨i, h1, h2, _⟩ := info_parts info13; exact ⟨i, _, h1, h2, build_run h1 h2 Try.underlying13 (fun w => by kernel_rfl) w⟩
  · cases h; obtain ⟨i, h1, h2, _⟩ := info_parts info14; exact ⟨i, _, h1, h2, build_run h1 h2 Try.underlying14 (fun w => by kernel_rfl) w⟩
  · cases h; obtain ⟨i, h1, h2, _⟩ := info_parts info18; exact ⟨i, _, h1, h2, build_run h1 h2 Try.underlying18 (fun w => by kernel_rfl) w⟩
  · cases h; obtain ⟨i, h1, h2, _⟩ := info_parts info19; exact ⟨i, _, h1, h2, build_run h1 h2 Try.underlying19 (fun w => by kernel_rfl) w⟩
  · cases h; obtain ⟨i, h1, h2, _⟩ := info_parts info25; exact ⟨i, _, h1, h2, build_run h1 h2 Try.underlying25 (fun w => by kernel_rfl) w⟩
  · cases h; obtain ⟨i, h1, h2, _⟩ := info_parts info26; exact ⟨i, _, h1, h2, build_run h1 h2 Try.underlying26 (fun w => by kernel_rfl) w⟩
  · cases h; obtain ⟨i, h1, h2, _⟩ := info_parts info28; exact ⟨i, _, h1, h2, build_run h1 h2 Try.underlying28 (fun w => by kernel_rfl) w⟩
  · cases h; obtain ⟨i, h1, h2, _⟩ := info_parts info29; exact ⟨i, _, h1, h2, build_run h1 h2 Try.underlying29 (fun w => by kernel_rfl) w⟩
  · cases h; obtain ⟨i, h1, h2, _⟩ := info_parts info66; exact ⟨i, _, h1, h2, build_run h1 h2 Try.underlying66 (fun w => by kernel_rfl) w⟩
  · cases h; obtain ⟨i, h1, h2, _⟩ := info_parts info67; exact ⟨i, _, h1, h2, build_run h1 h2 Try.underlying67 (fun w => by kernel_rfl) w⟩
  · cases h; obtain ⟨i, h1, h2, _⟩ := info_parts info76; exact ⟨i, _, h1, h2, build_run h1 h2 Try.underlying76 (fun w => by kernel_rfl) w⟩
  · cases h; obtain ⟨i, h1, h2, _⟩ := info_parts info77; exact ⟨i, _, h1, h2, build_run h1 h2 Try.underlying77 (fun w => by kernel_rfl) w⟩
  · cases h; obtain ⟨i, h1, h2, _⟩ := info_parts info110; exact ⟨i, _, h1, h2, build_run h1 h2 Try.underlying110 (fun w => by kernel_rfl) w⟩
  · cases h; obtain ⟨i, h1, h2, _⟩ := info_parts info111; exact ⟨i, _, h1, h2, build_run h1 h2 Try.underlying111 (fun w => by kernel_rfl) w⟩
  · cases h; obtain ⟨i, h1, h2, _⟩ := info_parts info122; exact ⟨i, _, h1, h2, build_run h1 h2 Try.underlying122 (fun w => by kernel_rfl) w⟩
  · cases h; obtain ⟨i, h1, h2, _⟩ := info_parts info123; exact ⟨i, _, h1, h2, build_run h1 h2 Try.underlying123 (fun w => by kernel_rfl) w⟩
  · cases h
theorem env_pts : ∀ t, ePts t = true → ∀ (a b c d : Int) w, (Op.equal t (.agg #[.int .i64 a, .int .i64 b]) (.agg #[.int .i64 c, .int .i64 d])).run Try.prog w = .ok (decide (a = c ∧ b = d)) w ∧
    ∀ x y op, (eqGuard op t x y (.agg #[.int .i64 a, .int .i64 b]) (.agg #[.int .i64 c, .int .i64 d])).run Try.prog w = .ok () w := by
  intro t h a b c d w
  unfold ePts at h
  split at h
  · exact pts_run Try.underlying28 ⟨rfl, by decide, Try.underlying2⟩ ⟨rfl, by decide, Try.underlying2⟩ (by kernel_rfl) (by kernel_rfl) a b c d w
  · exact pts_run Try.underlying29 ⟨rfl, by decide, Try.underlying2⟩ ⟨rfl, by decide, Try.underlying2⟩ (by kernel_rfl) (by kernel_rfl) a b c d w
  · cases h
theorem env_mp : ∀ t kk z, eMp t = some (kk, z) → ∃ kt et i, Try.prog.underlying t = some (.map kt et) ∧ KeyLaw Try.prog kk kt ∧ Try.prog.info? et = some i ∧ i.zero = some z := by
  intro t kk z h
  unfold eMp at h
  split at h
  · cases h; obtain ⟨i, h1, h2, _⟩ := info_parts info2; exact ⟨67, 2, i, Try.underlying64, (keyLaw_st Try.underlying67 ⟨rfl, by decide⟩ ⟨rfl, by decide, Try.underlying3⟩ Try.underlying29 ⟨rfl, by decide, Try.underlying2⟩ ⟨rfl, by decide, Try.underlying2⟩ (by kernel_rfl) (by kernel_rfl) (fun a b k w => by kernel_rfl)), h1, h2⟩
  · cases h; obtain ⟨i, h1, h2, _⟩ := info_parts info4; exact ⟨29, 4, i, Try.underlying73, (keyLaw_pts Try.underlying29 ⟨rfl, by decide, Try.underlying2⟩ ⟨rfl, by decide, Try.underlying2⟩ (by kernel_rfl) (by kernel_rfl)), h1, h2⟩
  · cases h
theorem env_byt : ∀ t, eByt t = true → ∃ et, Try.prog.underlying t = some (.slice et) ∧ Try.prog.underlying et = some (.int .u8) := by
  intro t h
  unfold eByt at h
  split at h
  · exact ⟨_, Try.underlying22, Try.underlying5⟩
  · cases h
theorem env_ifc : ∀ t, eIfc t = true → ∃ ms, Try.prog.underlying t = some (.interface ms) := by
  intro t h
  unfold eIfc at h
  split at h
  · exact ⟨_, Try.underlying20⟩
  · cases h
theorem mixed : Try.prog.follows .mixedOrders = true := by kernel_rfl
theorem envOk : EnvOk Try.prog env := ⟨env_sl, env_var, env_fld, env_zero, env_knd, env_bld, env_pts, env_mp, env_byt, env_ifc⟩
theorem vsl_22 : env.sl 22 = some (.int .u8) := rfl
theorem vsl_24 : env.sl 24 = some (.sli .i64) := rfl
theorem vsl_35 : env.sl 35 = some (.int .i64) := rfl
theorem vsl_36 : env.sl 36 = some (.pt) := rfl
theorem vkn_22 : env.knd 22 = none := rfl
theorem vkn_24 : env.knd 24 = none := rfl
theorem vkn_35 : env.knd 35 = none := rfl
theorem vkn_36 : env.knd 36 = none := rfl
theorem vvar_1 : env.var 1 = some (false, 1) := rfl
theorem vvar_2 : env.var 2 = some (false, 1) := rfl
theorem vvar_3 : env.var 3 = some (false, 1) := rfl
theorem vvar_4 : env.var 4 = some (false, 1) := rfl
theorem vvar_5 : env.var 5 = some (false, 1) := rfl
theorem vvar_6 : env.var 6 = some (false, 1) := rfl
theorem vvar_9 : env.var 9 = some (false, 1) := rfl
theorem vvar_22 : env.var 22 = some (false, 1) := rfl
theorem vvar_24 : env.var 24 = some (false, 1) := rfl
theorem vvar_26 : env.var 26 = some (true, 1) := rfl
theorem vvar_29 : env.var 29 = some (true, 2) := rfl
theorem vvar_35 : env.var 35 = some (false, 1) := rfl
theorem vvar_36 : env.var 36 = some (false, 1) := rfl
theorem vvar_50 : env.var 50 = some (false, 1) := rfl
theorem vvar_53 : env.var 53 = some (false, 1) := rfl
theorem vvar_55 : env.var 55 = some (false, 1) := rfl
theorem vvar_75 : env.var 75 = some (false, 1) := rfl
theorem vvar_77 : env.var 77 = some (true, 3) := rfl
theorem vfld_26_0 : env.fld 26 0 = some 0 := rfl
theorem vfld_29_0 : env.fld 29 0 = some 0 := rfl
theorem vfld_29_1 : env.fld 29 1 = some 1 := rfl
theorem vfld_77_0 : env.fld 77 0 = some 0 := rfl
theorem vfld_77_1 : env.fld 77 1 = some 1 := rfl
theorem vfld_77_2 : env.fld 77 2 = some 2 := rfl
theorem vzero_1 : env.zero 1 = some [.nilFunc] := rfl
theorem vzero_2 : env.zero 2 = some [.int .i64 0] := rfl
theorem vzero_3 : env.zero 3 = some [.int .i64 0] := rfl
theorem vzero_4 : env.zero 4 = some [.bool false] := rfl
theorem vzero_5 : env.zero 5 = some [.int .u8 0] := rfl
theorem vzero_6 : env.zero 6 = some [.int .u8 0] := rfl
theorem vzero_9 : env.zero 9 = some [.string ByteArray.empty] := rfl
theorem vzero_22 : env.zero 22 = some [.slice none 0 0] := rfl
theorem vzero_24 : env.zero 24 = some [.slice none 0 0] := rfl
theorem vzero_26 : env.zero 26 = some [.slice none 0 0] := rfl
theorem vzero_29 : env.zero 29 = some [.int .i64 0, .int .i64 0] := rfl
theorem vzero_35 : env.zero 35 = some [.slice none 0 0] := rfl
theorem vzero_36 : env.zero 36 = some [.slice none 0 0] := rfl
theorem vzero_50 : env.zero 50 = some [.pointer none] := rfl
theorem vzero_53 : env.zero 53 = some [.nilFunc] := rfl
theorem vzero_55 : env.zero 55 = some [.pointer none] := rfl
theorem vzero_75 : env.zero 75 = some [.int .u64 0] := rfl
theorem vzero_77 : env.zero 77 = some [.slice none 0 0, .int .i64 0, .int .u64 0] := rfl
theorem vknd_2 : env.knd 2 = some (.int .i64) := rfl
theorem vknd_3 : env.knd 3 = some (.int .i64) := rfl
theorem vknd_4 : env.knd 4 = some (.bool) := rfl
theorem vknd_5 : env.knd 5 = some (.int .u8) := rfl
theorem vknd_6 : env.knd 6 = some (.int .u8) := rfl
theorem vknd_9 : env.knd 9 = some (.string) := rfl
theorem vknd_75 : env.knd 75 = some (.int .u64) := rfl
theorem vsn_2 : env.sl 2 = none := rfl
theorem vsn_3 : env.sl 3 = none := rfl
theorem vsn_4 : env.sl 4 = none := rfl
theorem vsn_5 : env.sl 5 = none := rfl
theorem vsn_6 : env.sl 6 = none := rfl
theorem vsn_9 : env.sl 9 = none := rfl
theorem vsn_75 : env.sl 75 = none := rfl
theorem vbld_26 : env.bld 26 = some [(0, 1)] := rfl
theorem vbld_29 : env.bld 29 = some [(0, 1), (1, 1)] := rfl
theorem vbld_77 : env.bld 77 = some [(0, 1), (1, 1), (2, 1)] := rfl
theorem vbyt_22 : env.byt 22 = true := rfl
theorem vpts_29 : env.pts 29 = true := rfl
def eSl2 : TypeId → Option ETy
  | 22 => some (.int .u8)
  | 24 => some (.own .i64)
  | 35 => some (.int .i64)
  | 36 => some (.pt)
  | 83 => some (.st)
  | 99 => some (.int .i64)
  | _ => none
def env2 : Env := { sl := eSl2, var := eVar, fld := eFld, zero := eZero, knd := eKnd, bld := eBld, pts := ePts, mp := eMp, byt := eByt, ifc := eIfc }
theorem env_sl2 : ∀ t e, eSl2 t = some e → ∃ et i z, Try.prog.underlying t = some (.slice et) ∧ Try.prog.info? et = some i ∧ i.size = e.sz ∧ i.zero = some z ∧ z.cells.size = e.sz ∧ i.bytes ≤ 64 ∧
    ∀ j, j < e.sz → (e.enc e.d).getD j .junk = .v (z.cells.toList.getD j undef) ∨ ∃ e', (e.enc e.d).getD j .junk = .rd e' [] ∧ z.cells.toList.getD j undef = .slice none 0 0 := by
  intro t e h
  unfold eSl2 at h
  split at h
  · cases h; exact env_sl 22 _ rfl
  · cases h; obtain ⟨i, h1, h2, h3, h4⟩ := info_parts info35
    exact ⟨35, i, _, Try.underlying24, h1, h3, h2, rfl, by rw [h4]; decide, fun j hj => .inl (by rcases j with _ | j <;> first | rfl | (exact absurd hj (by simp [ETy.sz])))⟩
  · cases h; exact env_sl 35 _ rfl
  · cases h; exact env_sl 36 _ rfl
  · cases h; exact env_sl 83 _ rfl
  · cases h; exact env_sl 99 _ rfl
  · cases h
theorem envOk2 : EnvOk Try.prog env2 := ⟨env_sl2, env_var, env_fld, env_zero, env_knd, env_bld, env_pts, env_mp, env_byt, env_ifc⟩
theorem wsl_24 : env2.sl 24 = some (.own .i64) := rfl
theorem wsl_35 : env2.sl 35 = some (.int .i64) := rfl
theorem wsl_36 : env2.sl 36 = some (.pt) := rfl
theorem wkn_24 : env2.knd 24 = none := rfl
theorem wkn_35 : env2.knd 35 = none := rfl
theorem wkn_36 : env2.knd 36 = none := rfl
theorem wvar_1 : env2.var 1 = some (false, 1) := rfl
theorem wvar_2 : env2.var 2 = some (false, 1) := rfl
theorem wvar_3 : env2.var 3 = some (false, 1) := rfl
theorem wvar_4 : env2.var 4 = some (false, 1) := rfl
theorem wvar_6 : env2.var 6 = some (false, 1) := rfl
theorem wvar_9 : env2.var 9 = some (false, 1) := rfl
theorem wvar_24 : env2.var 24 = some (false, 1) := rfl
theorem wvar_26 : env2.var 26 = some (true, 1) := rfl
theorem wvar_29 : env2.var 29 = some (true, 2) := rfl
theorem wvar_35 : env2.var 35 = some (false, 1) := rfl
theorem wvar_36 : env2.var 36 = some (false, 1) := rfl
theorem wfld_26_0 : env2.fld 26 0 = some 0 := rfl
theorem wfld_29_0 : env2.fld 29 0 = some 0 := rfl
theorem wfld_29_1 : env2.fld 29 1 = some 1 := rfl
theorem wzero_1 : env2.zero 1 = some [.nilFunc] := rfl
theorem wzero_2 : env2.zero 2 = some [.int .i64 0] := rfl
theorem wzero_3 : env2.zero 3 = some [.int .i64 0] := rfl
theorem wzero_4 : env2.zero 4 = some [.bool false] := rfl
theorem wzero_6 : env2.zero 6 = some [.int .u8 0] := rfl
theorem wzero_9 : env2.zero 9 = some [.string ByteArray.empty] := rfl
theorem wzero_24 : env2.zero 24 = some [.slice none 0 0] := rfl
theorem wzero_26 : env2.zero 26 = some [.slice none 0 0] := rfl
theorem wzero_29 : env2.zero 29 = some [.int .i64 0, .int .i64 0] := rfl
theorem wzero_35 : env2.zero 35 = some [.slice none 0 0] := rfl
theorem wzero_36 : env2.zero 36 = some [.slice none 0 0] := rfl
theorem wknd_2 : env2.knd 2 = some (.int .i64) := rfl
theorem wknd_3 : env2.knd 3 = some (.int .i64) := rfl
theorem wknd_4 : env2.knd 4 = some (.bool) := rfl
theorem wknd_6 : env2.knd 6 = some (.int .u8) := rfl
theorem wknd_9 : env2.knd 9 = some (.string) := rfl
theorem wsn_2 : env2.sl 2 = none := rfl
theorem wsn_3 : env2.sl 3 = none := rfl
theorem wsn_4 : env2.sl 4 = none := rfl
theorem wsn_6 : env2.sl 6 = none := rfl
theorem wsn_9 : env2.sl 9 = none := rfl
theorem wbld_26 : env2.bld 26 = some [(0, 1)] := rfl
theorem wbld_29 : env2.bld 29 = some [(0, 1), (1, 1)] := rfl
theorem wpts_29 : env2.pts 29 = true := rfl
end Go.Proofs.Ytlfhhgfhoddgpaa
end
section
set_option linter.unusedSimpArgs false
set_option linter.unusedVariables false
namespace Go.Proofs.Ytlfhhgfhoddgpaa
open Go.Eng
abbrev Mz := List (List Int)
abbrev Pt := Int × Int
def width (m : Mz) : Nat := (m.getD 0 []).length
def RowIs (w : Nat) (r : List Int) : Prop := r.length = w ∧ ∀ x, x < r.length → 0 ≤ r.getD x 0 ∧ r.getD x 0 ≤ 9
/-- Is a maze valid? -/
def MzOk (m : Mz) : Prop := (1 ≤ m.length ∧ m.length ≤ 12) ∧ (1 ≤ width m ∧ width m ≤ 12) ∧ ∀ y, y < m.length → RowIs (width m) (m.getD y [])
noncomputable instance (m : Mz) : Decidable (MzOk m) := Classical.propDecidable _
def cell (m : Mz) (p : Pt) : Int := (m.getD p.2.toNat []).getD p.1.toNat 0
def InMz (m : Mz) (p : Pt) : Prop := (0 ≤ p.2 ∧ p.2 ≤ (m.length : Int) - 1) ∧ (0 ≤ p.1 ∧ p.1 ≤ (width m : Int) - 1)
instance (m : Mz) (p : Pt) : Decidable (InMz m p) := by unfold InMz; exact inferInstance
/-- A point of an open cell. -/
def OpenAt (m : Mz) (p : Pt) : Prop := InMz m p ∧ 0 < cell m p
instance (m : Mz) (p : Pt) : Decidable (OpenAt m p) := by unfold OpenAt; exact inferInstance
theorem MzOk.cell {m : Mz} (h : MzOk m) {p : Pt} (hp : InMz m p) : p.2.toNat < m.length ∧ (m.getD p.2.toNat []).length = width m ∧ p.1.toNat < (m.getD p.2.toNat []).length ∧ 0 ≤ cell m p ∧ cell m p ≤ 9 := by
  obtain ⟨h1, h2, h3⟩ := h
  obtain ⟨⟨p1, p2⟩, p3, p4⟩ := hp
  have hy : p.2.toNat < m.length := by omega
  obtain ⟨g1, g2⟩ := h3 _ hy
  have hx : p.1.toNat < (m.getD p.2.toNat []).length := by omega
  exact ⟨hy, g1, hx, g2 _ hx⟩
/-- The neighbour to which a direction leads. -/
def stepTo (p : Pt) (k : Int) : Pt := if k = 0 then (p.1, p.2 - 1) else if k = 1 then (p.1 - 1, p.2) else if k = 2 then (p.1 + 1, p.2) else (p.1, p.2 + 1)
/-- The direction of a letter; -1 of none. -/
def letter (c : Int) : Int := if c = 100 then 0 else if c = 108 then 1 else if c = 114 then 2 else if c = 117 then 3 else -1
/-- The cells of the first i steps. -/
def wayTo (m : Mz) (from_ : Pt) (s : ByteArray) : Nat → Option (List Pt)
  | 0 => some [from_]
  | i + 1 => match wayTo m from_ s i with
    | none => none
    | some l => if 0 ≤ letter (byteAt s i) ∧ OpenAt m (stepTo (l.getD i (0, 0)) (letter (byteAt s i))) then some (l ++ [stepTo (l.getD i (0, 0)) (letter (byteAt s i))]) else none
def wayOf (m : Mz) (from_ : Pt) (s : ByteArray) : Option (List Pt) := wayTo m from_ s s.size
theorem wayTo_len {m : Mz} {f : Pt} {s : ByteArray} : ∀ {i : Nat} {l : List Pt}, wayTo m f s i = some l → l.length = i + 1
  | 0, l, h => by simp [wayTo] at h; subst h; rfl
  | i + 1, l, h => by
    unfold wayTo at h
    split at h
    · cases h
    · rename_i l' hl
      split at h
      · cases h; simp [wayTo_len hl]
      · cases h
theorem wayTo_open {m : Mz} {f : Pt} {s : ByteArray} (hf : OpenAt m f) : ∀ {i : Nat} {l : List Pt}, wayTo m f s i = some l → ∀ j, j < i + 1 → OpenAt m (l.getD j (0, 0))
  | 0, l, h, j, hj => by
    simp [wayTo] at h; subst h
    obtain rfl : j = 0 := by omega
    exact hf
  | i + 1, l, h, j, hj => by
    unfold wayTo at h
    split at h
    · cases h
    · rename_i l' hl
      have hlen := wayTo_len hl
      split at h
      · rename_i hc
        cases h
        by_cases e : j < i + 1
        · have := wayTo_open hf hl j e
          simp only [List.getD] at this ⊢
          rw [List.getElem?_append_left (by omega)]; exact this
        · obtain rfl : j = i + 1 := by omega
          have : (l' ++ [stepTo (l'.getD i (0, 0)) (letter (byteAt s i))]).getD (i + 1) (0, 0) = stepTo (l'.getD i (0, 0)) (letter (byteAt s i)) := by
            simp only [List.getD]
            rw [List.getElem?_append_right (by omega), hlen, Nat.sub_self]; rfl
          rw [this]; exact hc.2
      · cases h
/-- Once lost, always lost. -/
theorem wayTo_none {m : Mz} {f : Pt} {s : ByteArray} {i : Nat} (h : wayTo m f s i = none) : ∀ d, wayTo m f s (i + d) = none
  | 0 => h
  | d + 1 => by
    have := wayTo_none h d
    show wayTo m f s ((i + d) + 1) = none
    unfold wayTo
    rw [this]
end Go.Proofs.Ytlfhhgfhoddgpaa
end
section
set_option linter.unusedSimpArgs false
set_option linter.unusedVariables false
set_option maxHeartbeats 1000000
namespace Go.Proofs.Ytlfhhgfhoddgpaa
open Go.Eng
theorem in39_ac (a b c : Int) (H : List ABox) : AC Try.prog 28 [.v (.int .i64 (a)), .v (.int .i64 (b)), .v (.int .i64 (c))] H (fun r H' => r = .v (.bool (decide (b ≤ a ∧ a ≤ c))) ∧ H' = H) := by
  refine AC.enter envOk Try.func28 rfl (by decide) Try.ntmps28 Try.results28 (by simp) fun hB => ?_
  repeat' (first | (with_reducible first | refine AW.sreg envOk fun K hK => ?_ | refine AW.region envOk fun K hK => ?_ | refine vcL_nil ?_) | (with_reducible (first | refine vcL_cons fun K' hK' => ?_); simp only [isC, Bool.false_or, Bool.or_true, ↓reduceDIte, List.take_length, Nat.le_refl, List.drop_zero, vGuard, undef, Bool.not_eq_eq_eq_not, dstOk, vcOp, vcF, isPure, putS, vcCall, St.ev, St.put, lk, AVal.ofVal, initS, Nat.reduceLT, true_and, and_true, vBin, vPick, vPart, vLoad, AVal.flat, AVal.cell, cellsOk, setRange, ETy.enc, ETy.dec, ETy.sz, ETy.d, cond, Nat.reduceBEq, Nat.reduceAdd, Int.toNat_natCast, List.length_set, List.length_append, List.length_replicate, List.length_take, Nat.reduceSub, Nat.reduceEqDiff, get_loc, setBox_loc, next_eq, List.length_cons, List.length_nil, List.map_cons, List.map_nil, List.append_nil, List.nil_append, List.cons_append, List.set_cons_zero, List.set_cons_succ, getD_zero, getD_succ, List.getElem?_cons_succ, List.getElem?_cons_zero, List.take_succ_cons, List.take_zero, List.drop_succ_cons, List.all_cons, List.all_nil, Bool.and_true, Bool.true_and, Option.bind_some, Option.map_some, Option.map_none, decide_eq_true_eq, decide_eq_false_iff_not, ne_eq, Bool.not_eq_true, Bool.not_eq_false, Decidable.not_not, not_true_eq_false, not_false_eq_true, forall_const, false_implies, Bool.true_eq_false, Bool.false_eq_true, reduceCtorEq, decide_true, decide_false, Bool.not_true, Bool.not_false, if_true, if_false, Nat.zero_add, Nat.lt_irrefl, Value.oneCell', gt_iff_lt, Nat.reduceLeDiff, Nat.lt_add_one, vvar_2, vzero_2, vknd_2, vsn_2, vvar_4, vzero_4, vknd_4, vsn_4]; try simp (disch := omega) only [wrap64]) | (with_reducible refine hK' _ ?_; clear hK' K') | (with_reducible refine hK _ ?_; clear hK K) | (with_reducible first | refine And.intro (And.intro rfl rfl) ?_ | refine And.intro (by omega) ?_) | (with_reducible refine And.intro (fun hg => ?_) (fun hg => ?_) <;> first | simp only [eq_false hg, decide_true, decide_false, and_true, true_and, and_false, false_and, not_true_eq_false, not_false_eq_true] | simp only [eq_true hg, decide_true, decide_false, and_true, true_and, and_false, false_and, not_true_eq_false, not_false_eq_true] | simp only [hg, decide_true, decide_false, and_true, true_and, and_false, false_and, not_true_eq_false, not_false_eq_true]) | (with_reducible first | refine And.intro rfl (And.intro rfl rfl) | refine thenQ_n ?_ | refine thenQ_exit ?_ | refine thenQ_ret ?_ | refine midQ_ret ?_ | refine midQ_exit ?_ | refine blockQ_same ?_ | refine blockQ_ne (by decide) ?_ | refine blockQ_ret ?_ | refine blockQ_n ?_ | refine AW.exit ?_ | refine AW.block ?_ | refine AW.cond_t rfl ?_ | refine AW.cond_f rfl ?_ | refine AW.cond_dec rfl (fun hc => ?_) (fun hc => ?_)) | (with_reducible refine AW.cond rfl (fun hc => ?_) (fun hc => ?_) <;> try simp only [Bool.not_eq_eq_eq_not, Bool.not_true, Bool.not_false, decide_eq_true_eq, decide_eq_false_iff_not] at hc) | (with_reducible first | refine AW.seq ?_ | refine AW.skip ?_ | refine AW.ret ?_ | refine And.intro ?_ ?_) | (with_reducible intro hg; first | simp only [eq_false hg, decide_true, decide_false, and_true, true_and, and_false, false_and, not_true_eq_false, not_false_eq_true] | simp only [eq_true hg, decide_true, decide_false, and_true, true_and, and_false, false_and, not_true_eq_false, not_false_eq_true]) | (with_reducible refine retQ_drop ?_; simp only [vRes, packRes, vLoad, vPart, lk, cond, Nat.reduceBEq, get_loc, getD_zero, getD_succ, true_and, List.length_cons, List.length_nil, Nat.reduceAdd, Nat.reduceLT, Nat.reduceLeDiff, List.take_succ_cons, List.take_zero, List.drop_succ_cons, List.drop_zero, vvar_2, vzero_2, vknd_2, vsn_2, vvar_4, vzero_4, vknd_4, vsn_4]) )
  all_goals refine ⟨_, _, FinOk.drop hB (Pl.ids (by (repeat' (first | exact Pl.v _ | exact Pl.junk | exact Pl.rd rfl _ | exact pl_nil | refine pl_cons ?_ ?_ | refine Pl.agg ?_ | refine Pl.tup ?_ | refine Pl.rp ?_ | refine Pl.fn ?_)); (first | done | fail))), ?_, rfl⟩
  all_goals refine v_bool ?_
  all_goals grind
theorem in68_ac (a b c : Int) (H : List ABox) : AC Try.prog 40 [.v (.int .i64 (a)), .v (.int .i64 (b)), .v (.int .i64 (c))] H (fun r H' => r = .v (.bool (decide (b ≤ a ∧ a ≤ c))) ∧ H' = H) := by
  refine AC.enter envOk Try.func40 rfl (by decide) Try.ntmps40 Try.results40 (by simp) fun hB => ?_
  repeat' (first | (with_reducible first | refine AW.sreg envOk fun K hK => ?_ | refine AW.region envOk fun K hK => ?_ | refine vcL_nil ?_) | (with_reducible (first | refine vcL_cons fun K' hK' => ?_); simp only [isC, Bool.false_or, Bool.or_true, ↓reduceDIte, List.take_length, Nat.le_refl, List.drop_zero, vGuard, undef, Bool.not_eq_eq_eq_not, dstOk, vcOp, vcF, isPure, putS, vcCall, St.ev, St.put, lk, AVal.ofVal, initS, Nat.reduceLT, true_and, and_true, vBin, vPick, vPart, vLoad, AVal.flat, AVal.cell, cellsOk, setRange, ETy.enc, ETy.dec, ETy.sz, ETy.d, cond, Nat.reduceBEq, Nat.reduceAdd, Int.toNat_natCast, List.length_set, List.length_append, List.length_replicate, List.length_take, Nat.reduceSub, Nat.reduceEqDiff, get_loc, setBox_loc, next_eq, List.length_cons, List.length_nil, List.map_cons, List.map_nil, List.append_nil, List.nil_append, List.cons_append, List.set_cons_zero, List.set_cons_succ, getD_zero, getD_succ, List.getElem?_cons_succ, List.getElem?_cons_zero, List.take_succ_cons, List.take_zero, List.drop_succ_cons, List.all_cons, List.all_nil, Bool.and_true, Bool.true_and, Option.bind_some, Option.map_some, Option.map_none, decide_eq_true_eq, decide_eq_false_iff_not, ne_eq, Bool.not_eq_true, Bool.not_eq_false, Decidable.not_not, not_true_eq_false, not_false_eq_true, forall_const, false_implies, Bool.true_eq_false, Bool.false_eq_true, reduceCtorEq, decide_true, decide_false, Bool.not_true, Bool.not_false, if_true, if_false, Nat.zero_add, Nat.lt_irrefl, Value.oneCell', gt_iff_lt, Nat.reduceLeDiff, Nat.lt_add_one, vvar_2, vzero_2, vknd_2, vsn_2, vvar_4, vzero_4, vknd_4, vsn_4]; try simp (disch := omega) only [wrap64]) | (with_reducible refine hK' _ ?_; clear hK' K') | (with_reducible refine hK _ ?_; clear hK K) | (with_reducible first | refine And.intro (And.intro rfl rfl) ?_ | refine And.intro (by omega) ?_) | (with_reducible refine And.intro (fun hg => ?_) (fun hg => ?_) <;> first | simp only [eq_false hg, decide_true, decide_false, and_true, true_and, and_false, false_and, not_true_eq_false, not_false_eq_true] | simp only [eq_true hg, decide_true, decide_false, and_true, true_and, and_false, false_and, not_true_eq_false, not_false_eq_true] | simp only [hg, decide_true, decide_false, and_true, true_and, and_false, false_and, not_true_eq_false, not_false_eq_true]) | (with_reducible first | refine And.intro rfl (And.intro rfl rfl) | refine thenQ_n ?_ | refine thenQ_exit ?_ | refine thenQ_ret ?_ | refine midQ_ret ?_ | refine midQ_exit ?_ | refine blockQ_same ?_ | refine blockQ_ne (by decide) ?_ | refine blockQ_ret ?_ | refine blockQ_n ?_ | refine AW.exit ?_ | refine AW.block ?_ | refine AW.cond_t rfl ?_ | refine AW.cond_f rfl ?_ | refine AW.cond_dec rfl (fun hc => ?_) (fun hc => ?_)) | (with_reducible refine AW.cond rfl (fun hc => ?_) (fun hc => ?_) <;> try simp only [Bool.not_eq_eq_eq_not, Bool.not_true, Bool.not_false, decide_eq_true_eq, decide_eq_false_iff_not] at hc) | (with_reducible first | refine AW.seq ?_ | refine AW.skip ?_ | refine AW.ret ?_ | refine And.intro ?_ ?_) | (with_reducible intro hg; first | simp only [eq_false hg, decide_true, decide_false, and_true, true_and, and_false, false_and, not_true_eq_false, not_false_eq_true] | simp only [eq_true hg, decide_true, decide_false, and_true, true_and, and_false, false_and, not_true_eq_false, not_false_eq_true]) | (with_reducible refine retQ_drop ?_; simp only [vRes, packRes, vLoad, vPart, lk, cond, Nat.reduceBEq, get_loc, getD_zero, getD_succ, true_and, List.length_cons, List.length_nil, Nat.reduceAdd, Nat.reduceLT, Nat.reduceLeDiff, List.take_succ_cons, List.take_zero, List.drop_succ_cons, List.drop_zero, vvar_2, vzero_2, vknd_2, vsn_2, vvar_4, vzero_4, vknd_4, vsn_4]) )
  all_goals refine ⟨_, _, FinOk.drop hB (Pl.ids (by (repeat' (first | exact Pl.v _ | exact Pl.junk | exact Pl.rd rfl _ | exact pl_nil | refine pl_cons ?_ ?_ | refine Pl.agg ?_ | refine Pl.tup ?_ | refine Pl.rp ?_ | refine Pl.fn ?_)); (first | done | fail))), ?_, rfl⟩
  all_goals refine v_bool ?_
  all_goals grind
/-- No list is longer than that. -/
def Fits (n : Nat) (m : Mz) : Prop := m.length ≤ n ∧ ∀ i, (m.getD i []).length ≤ n
theorem take_snocL {m : Mz} {i : Nat} (h : i < m.length) : m.take (i + 1) = m.take i ++ [m.getD i []] := by
  rw [List.take_add_one, List.getElem?_eq_getElem h]; simp [List.getD, h]
theorem getD_none {m : Mz} {y : Nat} (h : ¬ y < m.length) : m.getD y [] = [] := by simp [List.getD, List.getElem?_eq_none (Nat.le_of_not_lt h)]
/-- All prices of a row are prices. -/
def RowG (xs : List Int) : Prop := ∀ x, x < xs.length → 0 ≤ xs.getD x 0 ∧ xs.getD x 0 ≤ 9
instance (xs : List Int) : Decidable (RowG xs) := by unfold RowG; exact inferInstance
theorem not41_ac (n : Int) (H : List ABox) : AC Try.prog 30 [.v (.int .i64 (n))] H (fun r H' => r = .v (.bool (!decide (0 ≤ n ∧ n ≤ 9))) ∧ H' = H) := by
  refine AC.enter envOk Try.func30 rfl (by decide) Try.ntmps30 Try.results30 (by simp) fun hB => ?_
  repeat' (first | (with_reducible first | refine AW.sreg envOk fun K hK => ?_ | refine AW.region envOk fun K hK => ?_ | refine vcL_nil ?_) | (with_reducible (first | refine vcL_cons fun K' hK' => ?_); simp only [isC, Bool.false_or, Bool.or_true, ↓reduceDIte, List.take_length, Nat.le_refl, List.drop_zero, vGuard, undef, Bool.not_eq_eq_eq_not, dstOk, vcOp, vcF, isPure, putS, vcCall, St.ev, St.put, lk, AVal.ofVal, initS, Nat.reduceLT, true_and, and_true, vUn, vPart, vLoad, AVal.flat, AVal.cell, cellsOk, setRange, ETy.enc, ETy.dec, ETy.sz, ETy.d, cond, Nat.reduceBEq, Nat.reduceAdd, Int.toNat_natCast, List.length_set, List.length_append, List.length_replicate, List.length_take, Nat.reduceSub, Nat.reduceEqDiff, get_loc, setBox_loc, next_eq, List.length_cons, List.length_nil, List.map_cons, List.map_nil, List.append_nil, List.nil_append, List.cons_append, List.set_cons_zero, List.set_cons_succ, getD_zero, getD_succ, List.getElem?_cons_succ, List.getElem?_cons_zero, List.take_succ_cons, List.take_zero, List.drop_succ_cons, List.all_cons, List.all_nil, Bool.and_true, Bool.true_and, Option.bind_some, Option.map_some, Option.map_none, decide_eq_true_eq, decide_eq_false_iff_not, ne_eq, Bool.not_eq_true, Bool.not_eq_false, Decidable.not_not, not_true_eq_false, not_false_eq_true, forall_const, false_implies, Bool.true_eq_false, Bool.false_eq_true, reduceCtorEq, decide_true, decide_false, Bool.not_true, Bool.not_false, if_true, if_false, Nat.zero_add, Nat.lt_irrefl, Value.oneCell', gt_iff_lt, Nat.reduceLeDiff, Nat.lt_add_one, vvar_2, vzero_2, vknd_2, vsn_2, vvar_4, vzero_4, vknd_4, vsn_4]; try simp (disch := omega) only [wrap64]) | (with_reducible refine hK' _ ?_; clear hK' K') | (with_reducible refine hK _ ?_; clear hK K) | (with_reducible first | refine vCall_pure (in39_ac _ _ _ _) ?_ | refine And.intro (And.intro rfl rfl) ?_ | refine And.intro (by omega) ?_) | (with_reducible refine And.intro (fun hg => ?_) (fun hg => ?_) <;> first | simp only [eq_false hg, decide_true, decide_false, and_true, true_and, and_false, false_and, not_true_eq_false, not_false_eq_true] | simp only [eq_true hg, decide_true, decide_false, and_true, true_and, and_false, false_and, not_true_eq_false, not_false_eq_true] | simp only [hg, decide_true, decide_false, and_true, true_and, and_false, false_and, not_true_eq_false, not_false_eq_true]) | (with_reducible first | refine And.intro rfl (And.intro rfl rfl) | refine thenQ_n ?_ | refine thenQ_exit ?_ | refine thenQ_ret ?_ | refine midQ_ret ?_ | refine midQ_exit ?_ | refine blockQ_same ?_ | refine blockQ_ne (by decide) ?_ | refine blockQ_ret ?_ | refine blockQ_n ?_ | refine AW.exit ?_ | refine AW.block ?_ | refine AW.cond_t rfl ?_ | refine AW.cond_f rfl ?_ | refine AW.cond_dec rfl (fun hc => ?_) (fun hc => ?_)) | (with_reducible refine AW.cond rfl (fun hc => ?_) (fun hc => ?_) <;> try simp only [Bool.not_eq_eq_eq_not, Bool.not_true, Bool.not_false, decide_eq_true_eq, decide_eq_false_iff_not] at hc) | (with_reducible first | refine AW.seq ?_ | refine AW.skip ?_ | refine AW.ret ?_ | refine And.intro ?_ ?_) | (with_reducible intro hg; first | simp only [eq_false hg, decide_true, decide_false, and_true, true_and, and_false, false_and, not_true_eq_false, not_false_eq_true] | simp only [eq_true hg, decide_true, decide_false, and_true, true_and, and_false, false_and, not_true_eq_false, not_false_eq_true]) | (with_reducible refine retQ_drop ?_; simp only [vRes, packRes, vLoad, vPart, lk, cond, Nat.reduceBEq, get_loc, getD_zero, getD_succ, true_and, List.length_cons, List.length_nil, Nat.reduceAdd, Nat.reduceLT, Nat.reduceLeDiff, List.take_succ_cons, List.take_zero, List.drop_succ_cons, List.drop_zero, vvar_2, vzero_2, vknd_2, vsn_2, vvar_4, vzero_4, vknd_4, vsn_4]) )
  exact ⟨_, _, FinOk.drop hB (Pl.ids (by (repeat' (first | exact Pl.v _ | exact Pl.junk | exact Pl.rd rfl _ | exact pl_nil | refine pl_cons ?_ ?_ | refine Pl.agg ?_ | refine Pl.tup ?_ | refine Pl.rp ?_ | refine Pl.fn ?_)); (first | done | fail))), rfl, rfl⟩
theorem idx70_ac (xs : List Int) (hx : xs.length ≤ 1000000000) (H : List ABox) : AC Try.prog 47 [.rd (.int .i64) (xs), .fn 30 []] H (fun r H' => ∃ n : Int, (0 ≤ n ↔ ¬ RowG xs) ∧ r = .v (.int .i64 (n)) ∧ H' = H) := by
  refine AC.enter envOk Try.func47 rfl (by decide) Try.ntmps47 Try.results47 (by simp) fun hB => ?_
  repeat' (first | (with_reducible first | refine AW.sreg envOk fun K hK => ?_ | refine AW.region envOk fun K hK => ?_ | refine vcL_nil ?_) | (with_reducible (first | refine vcL_cons fun K' hK' => ?_); simp only [isC, Bool.false_or, Bool.or_true, ↓reduceDIte, List.take_length, Nat.le_refl, List.drop_zero, vGuard, undef, Bool.not_eq_eq_eq_not, dstOk, vcOp, vcF, isPure, putS, vcCall, St.ev, St.put, lk, AVal.ofVal, initS, Nat.reduceLT, true_and, and_true, vBin, vPart, vLoad, vIdxA, vLen, AVal.flat, AVal.cell, cellsOk, setRange, ETy.enc, ETy.dec, ETy.sz, ETy.d, cond, Nat.reduceBEq, Nat.reduceAdd, Int.toNat_natCast, List.length_set, List.length_append, List.length_replicate, List.length_take, Nat.reduceSub, Nat.reduceEqDiff, get_loc, setBox_loc, next_eq, List.length_cons, List.length_nil, List.map_cons, List.map_nil, List.append_nil, List.nil_append, List.cons_append, List.set_cons_zero, List.set_cons_succ, getD_zero, getD_succ, List.getElem?_cons_succ, List.getElem?_cons_zero, List.take_succ_cons, List.take_zero, List.drop_succ_cons, List.all_cons, List.all_nil, Bool.and_true, Bool.true_and, Option.bind_some, Option.map_some, Option.map_none, decide_eq_true_eq, decide_eq_false_iff_not, ne_eq, Bool.not_eq_true, Bool.not_eq_false, Decidable.not_not, not_true_eq_false, not_false_eq_true, forall_const, false_implies, Bool.true_eq_false, Bool.false_eq_true, reduceCtorEq, decide_true, decide_false, Bool.not_true, Bool.not_false, if_true, if_false, Nat.zero_add, Nat.lt_irrefl, Value.oneCell', gt_iff_lt, Nat.reduceLeDiff, Nat.lt_add_one, vvar_2, vzero_2, vknd_2, vsn_2, vvar_3, vzero_3, vknd_3, vsn_3, vvar_4, vzero_4, vknd_4, vsn_4, vsl_35, vkn_35, vvar_35, vzero_35, vvar_53, vzero_53]; try simp (disch := omega) only [wrap64]) | (with_reducible refine hK' _ ?_; clear hK' K') | (with_reducible refine hK _ ?_; clear hK K) | (with_reducible first | refine And.intro (And.intro rfl rfl) ?_ | refine And.intro (by omega) ?_) | (with_reducible refine And.intro (fun hg => ?_) (fun hg => ?_) <;> first | simp only [eq_false hg, decide_true, decide_false, and_true, true_and, and_false, false_and, not_true_eq_false, not_false_eq_true] | simp only [eq_true hg, decide_true, decide_false, and_true, true_and, and_false, false_and, not_true_eq_false, not_false_eq_true] | simp only [hg, decide_true, decide_false, and_true, true_and, and_false, false_and, not_true_eq_false, not_false_eq_true]) | (with_reducible first | refine And.intro rfl (And.intro rfl rfl) | refine thenQ_n ?_ | refine thenQ_exit ?_ | refine thenQ_ret ?_ | refine midQ_ret ?_ | refine midQ_exit ?_ | refine blockQ_same ?_ | refine blockQ_ne (by decide) ?_ | refine blockQ_ret ?_ | refine blockQ_n ?_ | refine AW.exit ?_ | refine AW.block ?_ | refine AW.cond_t rfl ?_ | refine AW.cond_f rfl ?_ | refine AW.cond_dec rfl (fun hc => ?_) (fun hc => ?_)) | (with_reducible refine AW.cond rfl (fun hc => ?_) (fun hc => ?_) <;> try simp only [Bool.not_eq_eq_eq_not, Bool.not_true, Bool.not_false, decide_eq_true_eq, decide_eq_false_iff_not] at hc) | (with_reducible first | refine AW.seq ?_ | refine AW.skip ?_ | refine AW.ret ?_ | refine And.intro ?_ ?_) | (with_reducible intro hg; first | simp only [eq_false hg, decide_true, decide_false, and_true, true_and, and_false, false_and, not_true_eq_false, not_false_eq_true] | simp only [eq_true hg, decide_true, decide_false, and_true, true_and, and_false, false_and, not_true_eq_false, not_false_eq_true]) | (with_reducible refine retQ_drop ?_; simp only [vRes, packRes, vLoad, vPart, lk, cond, Nat.reduceBEq, get_loc, getD_zero, getD_succ, true_and, List.length_cons, List.length_nil, Nat.reduceAdd, Nat.reduceLT, Nat.reduceLeDiff, List.take_succ_cons, List.take_zero, List.drop_succ_cons, List.drop_zero, vvar_2, vzero_2, vknd_2, vsn_2, vvar_3, vzero_3, vknd_3, vsn_3, vvar_4, vzero_4, vknd_4, vsn_4, vsl_35, vkn_35, vvar_35, vzero_35, vvar_53, vzero_53]) )
  refine AW.loop (fun i : Nat => (⟨19, [(0, .rd (.int .i64) (xs)), (1, .fn 30 []), (7, .v (.int .i64 ((xs.length : Int)))), (8, .v (.int .i64 ((i : Int))))], H, []⟩ : St)) (fun i => i ≤ xs.length ∧ ∀ j, j < i → 0 ≤ xs.getD j 0 ∧ xs.getD j 0 ≤ 9) (fun i => xs.length - i) 0 ⟨Nat.zero_le _, fun j h => absurd h (by omega)⟩ (Weak.slots (by repeat' first | exact trivial | exact ⟨rfl, trivial⟩ | refine ⟨rfl, ?_⟩)) ?_
  intro i ⟨hi, hI⟩
  repeat' (first | (with_reducible first | refine AW.sreg envOk fun K hK => ?_ | refine AW.region envOk fun K hK => ?_ | refine vcL_nil ?_) | (with_reducible (first | refine vcL_cons fun K' hK' => ?_); simp only [isC, Bool.false_or, Bool.or_true, ↓reduceDIte, List.take_length, Nat.le_refl, List.drop_zero, vGuard, undef, Bool.not_eq_eq_eq_not, dstOk, vcOp, vcF, isPure, putS, vcCall, St.ev, St.put, lk, AVal.ofVal, initS, Nat.reduceLT, true_and, and_true, vBin, vPart, vLoad, vIdxA, vLen, AVal.flat, AVal.cell, cellsOk, setRange, ETy.enc, ETy.dec, ETy.sz, ETy.d, cond, Nat.reduceBEq, Nat.reduceAdd, Int.toNat_natCast, List.length_set, List.length_append, List.length_replicate, List.length_take, Nat.reduceSub, Nat.reduceEqDiff, get_loc, setBox_loc, next_eq, List.length_cons, List.length_nil, List.map_cons, List.map_nil, List.append_nil, List.nil_append, List.cons_append, List.set_cons_zero, List.set_cons_succ, getD_zero, getD_succ, List.getElem?_cons_succ, List.getElem?_cons_zero, List.take_succ_cons, List.take_zero, List.drop_succ_cons, List.all_cons, List.all_nil, Bool.and_true, Bool.true_and, Option.bind_some, Option.map_some, Option.map_none, decide_eq_true_eq, decide_eq_false_iff_not, ne_eq, Bool.not_eq_true, Bool.not_eq_false, Decidable.not_not, not_true_eq_false, not_false_eq_true, forall_const, false_implies, Bool.true_eq_false, Bool.false_eq_true, reduceCtorEq, decide_true, decide_false, Bool.not_true, Bool.not_false, if_true, if_false, Nat.zero_add, Nat.lt_irrefl, Value.oneCell', gt_iff_lt, Nat.reduceLeDiff, Nat.lt_add_one, vvar_2, vzero_2, vknd_2, vsn_2, vvar_3, vzero_3, vknd_3, vsn_3, vvar_4, vzero_4, vknd_4, vsn_4, vsl_35, vkn_35, vvar_35, vzero_35, vvar_53, vzero_53]; try simp (disch := omega) only [wrap64]) | (with_reducible refine hK' _ ?_; clear hK' K') | (with_reducible refine hK _ ?_; clear hK K) | (with_reducible first | refine vCall_pure (not41_ac _ _) ?_ | refine And.intro (And.intro rfl rfl) ?_ | refine And.intro (by omega) ?_) | (with_reducible refine And.intro (fun hg => ?_) (fun hg => ?_) <;> first | simp only [eq_false hg, decide_true, decide_false, and_true, true_and, and_false, false_and, not_true_eq_false, not_false_eq_true] | simp only [eq_true hg, decide_true, decide_false, and_true, true_and, and_false, false_and, not_true_eq_false, not_false_eq_true] | simp only [hg, decide_true, decide_false, and_true, true_and, and_false, false_and, not_true_eq_false, not_false_eq_true]) | (with_reducible first | refine And.intro rfl (And.intro rfl rfl) | refine thenQ_n ?_ | refine thenQ_exit ?_ | refine thenQ_ret ?_ | refine midQ_ret ?_ | refine midQ_exit ?_ | refine blockQ_same ?_ | refine blockQ_ne (by decide) ?_ | refine blockQ_ret ?_ | refine blockQ_n ?_ | refine AW.exit ?_ | refine AW.block ?_ | refine AW.cond_t rfl ?_ | refine AW.cond_f rfl ?_ | refine AW.cond_dec rfl (fun hc => ?_) (fun hc => ?_)) | (with_reducible refine AW.cond rfl (fun hc => ?_) (fun hc => ?_) <;> try simp only [Bool.not_eq_eq_eq_not, Bool.not_true, Bool.not_false, decide_eq_true_eq, decide_eq_false_iff_not] at hc) | (with_reducible first | refine AW.seq ?_ | refine AW.skip ?_ | refine AW.ret ?_ | refine And.intro ?_ ?_) | (with_reducible intro hg; first | simp only [eq_false hg, decide_true, decide_false, and_true, true_and, and_false, false_and, not_true_eq_false, not_false_eq_true] | simp only [eq_true hg, decide_true, decide_false, and_true, true_and, and_false, false_and, not_true_eq_false, not_false_eq_true]) | (with_reducible refine retQ_drop ?_; simp only [vRes, packRes, vLoad, vPart, lk, cond, Nat.reduceBEq, get_loc, getD_zero, getD_succ, true_and, List.length_cons, List.length_nil, Nat.reduceAdd, Nat.reduceLT, Nat.reduceLeDiff, List.take_succ_cons, List.take_zero, List.drop_succ_cons, List.drop_zero, vvar_2, vzero_2, vknd_2, vsn_2, vvar_3, vzero_3, vknd_3, vsn_3, vvar_4, vzero_4, vknd_4, vsn_4, vsl_35, vkn_35, vvar_35, vzero_35, vvar_53, vzero_53]) )
  · exact ⟨_, _, FinOk.drop hB (.v _), (i : Int), ⟨fun _ h => absurd (h i (by omega)) (by assumption), fun _ => by omega⟩, rfl, rfl⟩
  · refine ⟨i + 1, ⟨by omega, fun j hj => ?_⟩, by omega, (Weak.slots (by repeat' first | exact trivial | exact ⟨rfl, trivial⟩ | refine ⟨rfl, ?_⟩))⟩
    by_cases e : j = i
    · subst e; assumption
    · exact hI j (by omega)
  · exact ⟨_, _, FinOk.drop hB (.v _), (-1 : Int), ⟨fun h => absurd h (by omega), fun h => absurd (fun j hj => hI j (by omega)) h⟩, rfl, rfl⟩
theorem cont40_ac (xs : List Int) (hx : xs.length ≤ 1000000000) (H : List ABox) : AC Try.prog 29 [.rd (.int .i64) (xs), .fn 30 []] H (fun r H' => r = .v (.bool (!decide (RowG xs))) ∧ H' = H) := by
  refine AC.enter envOk Try.func29 rfl (by decide) Try.ntmps29 Try.results29 (by simp) fun hB => ?_
  repeat' (first | (with_reducible first | refine AW.sreg envOk fun K hK => ?_ | refine AW.region envOk fun K hK => ?_ | refine vcL_nil ?_) | (with_reducible (first | refine vcL_cons fun K' hK' => ?_); simp only [isC, Bool.false_or, Bool.or_true, ↓reduceDIte, List.take_length, Nat.le_refl, List.drop_zero, vGuard, undef, Bool.not_eq_eq_eq_not, dstOk, vcOp, vcF, isPure, putS, vcCall, St.ev, St.put, lk, AVal.ofVal, initS, Nat.reduceLT, true_and, and_true, vBin, vPart, vLoad, AVal.flat, AVal.cell, cellsOk, setRange, ETy.enc, ETy.dec, ETy.sz, ETy.d, cond, Nat.reduceBEq, Nat.reduceAdd, Int.toNat_natCast, List.length_set, List.length_append, List.length_replicate, List.length_take, Nat.reduceSub, Nat.reduceEqDiff, get_loc, setBox_loc, next_eq, List.length_cons, List.length_nil, List.map_cons, List.map_nil, List.append_nil, List.nil_append, List.cons_append, List.set_cons_zero, List.set_cons_succ, getD_zero, getD_succ, List.getElem?_cons_succ, List.getElem?_cons_zero, List.take_succ_cons, List.take_zero, List.drop_succ_cons, List.all_cons, List.all_nil, Bool.and_true, Bool.true_and, Option.bind_some, Option.map_some, Option.map_none, decide_eq_true_eq, decide_eq_false_iff_not, ne_eq, Bool.not_eq_true, Bool.not_eq_false, Decidable.not_not, not_true_eq_false, not_false_eq_true, forall_const, false_implies, Bool.true_eq_false, Bool.false_eq_true, reduceCtorEq, decide_true, decide_false, Bool.not_true, Bool.not_false, if_true, if_false, Nat.zero_add, Nat.lt_irrefl, Value.oneCell', gt_iff_lt, Nat.reduceLeDiff, Nat.lt_add_one, vvar_3, vzero_3, vknd_3, vsn_3, vvar_4, vzero_4, vknd_4, vsn_4, vsl_35, vkn_35, vvar_35, vzero_35, vvar_53, vzero_53]; try simp (disch := omega) only [wrap64]) | (with_reducible refine hK' _ ?_; clear hK' K') | (with_reducible refine hK _ ?_; clear hK K) | (with_reducible first | refine vCall_ex (idx70_ac xs hx _) (fun n hn => ?_) | refine And.intro (And.intro rfl rfl) ?_ | refine And.intro (by omega) ?_) | (with_reducible refine And.intro (fun hg => ?_) (fun hg => ?_) <;> first | simp only [eq_false hg, decide_true, decide_false, and_true, true_and, and_false, false_and, not_true_eq_false, not_false_eq_true] | simp only [eq_true hg, decide_true, decide_false, and_true, true_and, and_false, false_and, not_true_eq_false, not_false_eq_true] | simp only [hg, decide_true, decide_false, and_true, true_and, and_false, false_and, not_true_eq_false, not_false_eq_true]) | (with_reducible first | refine And.intro rfl (And.intro rfl rfl) | refine thenQ_n ?_ | refine thenQ_exit ?_ | refine thenQ_ret ?_ | refine midQ_ret ?_ | refine midQ_exit ?_ | refine blockQ_same ?_ | refine blockQ_ne (by decide) ?_ | refine blockQ_ret ?_ | refine blockQ_n ?_ | refine AW.exit ?_ | refine AW.block ?_ | refine AW.cond_t rfl ?_ | refine AW.cond_f rfl ?_ | refine AW.cond_dec rfl (fun hc => ?_) (fun hc => ?_)) | (with_reducible refine AW.cond rfl (fun hc => ?_) (fun hc => ?_) <;> try simp only [Bool.not_eq_eq_eq_not, Bool.not_true, Bool.not_false, decide_eq_true_eq, decide_eq_false_iff_not] at hc) | (with_reducible first | refine AW.seq ?_ | refine AW.skip ?_ | refine AW.ret ?_ | refine And.intro ?_ ?_) | (with_reducible intro hg; first | simp only [eq_false hg, decide_true, decide_false, and_true, true_and, and_false, false_and, not_true_eq_false, not_false_eq_true] | simp only [eq_true hg, decide_true, decide_false, and_true, true_and, and_false, false_and, not_true_eq_false, not_false_eq_true]) | (with_reducible refine retQ_drop ?_; simp only [vRes, packRes, vLoad, vPart, lk, cond, Nat.reduceBEq, get_loc, getD_zero, getD_succ, true_and, List.length_cons, List.length_nil, Nat.reduceAdd, Nat.reduceLT, Nat.reduceLeDiff, List.take_succ_cons, List.take_zero, List.drop_succ_cons, List.drop_zero, vvar_3, vzero_3, vknd_3, vsn_3, vvar_4, vzero_4, vknd_4, vsn_4, vsl_35, vkn_35, vvar_35, vzero_35, vvar_53, vzero_53]) )
  refine ⟨_, _, FinOk.drop hB (Pl.ids (by (repeat' (first | exact Pl.v _ | exact Pl.junk | exact Pl.rd rfl _ | exact pl_nil | refine pl_cons ?_ ?_ | refine Pl.agg ?_ | refine Pl.tup ?_ | refine Pl.rp ?_ | refine Pl.fn ?_)); (first | done | fail))), ?_, rfl⟩
  by_cases h : RowG xs
  · rw [decide_eq_true h, decide_eq_false (fun h' => hn.1 h' h)]; rfl
  · rw [decide_eq_false h, decide_eq_true (hn.2 h)]; rfl
theorem is14_ac (m : Mz) (hm : Fits 1048576 m) (H : List ABox) : AC Try.prog 11 [.agg [.rd (.sli .i64) (m)]] H (fun r H' => r = .v (.bool (decide (MzOk m))) ∧ H' = H) := by
  obtain ⟨hm1, hm2⟩ := hm
  have h0 := hm2 0
  refine AC.enter envOk Try.func11 rfl (by decide) Try.ntmps11 Try.results11 (by simp) fun hB => ?_
  repeat' (first | (with_reducible first | refine AW.sreg envOk fun K hK => ?_ | refine AW.region envOk fun K hK => ?_ | refine vcL_nil ?_) | (with_reducible (first | refine vcL_cons fun K' hK' => ?_); simp only [isC, Bool.false_or, Bool.or_true, ↓reduceDIte, List.take_length, Nat.le_refl, List.drop_zero, vGuard, undef, Bool.not_eq_eq_eq_not, dstOk, vcOp, vcF, isPure, putS, vcCall, St.ev, St.put, lk, AVal.ofVal, initS, Nat.reduceLT, true_and, and_true, vBin, vUn, vPick, vPart, vLoad, vIdxA, vFldA, vLen, vBox, partsA, fillA, decAll, AVal.flat, AVal.cell, cellsOk, setRange, ETy.enc, ETy.dec, ETy.sz, ETy.d, cond, Nat.reduceBEq, Nat.reduceAdd, Int.toNat_natCast, List.length_set, List.length_append, List.length_replicate, List.length_take, Nat.reduceSub, Nat.reduceEqDiff, get_loc, setBox_loc, next_eq, List.length_cons, List.length_nil, List.map_cons, List.map_nil, List.append_nil, List.nil_append, List.cons_append, List.set_cons_zero, List.set_cons_succ, getD_zero, getD_succ, List.getElem?_cons_succ, List.getElem?_cons_zero, List.take_succ_cons, List.take_zero, List.drop_succ_cons, List.all_cons, List.all_nil, Bool.and_true, Bool.true_and, Option.bind_some, Option.map_some, Option.map_none, decide_eq_true_eq, decide_eq_false_iff_not, ne_eq, Bool.not_eq_true, Bool.not_eq_false, Decidable.not_not, not_true_eq_false, not_false_eq_true, forall_const, false_implies, Bool.true_eq_false, Bool.false_eq_true, reduceCtorEq, decide_true, decide_false, Bool.not_true, Bool.not_false, if_true, if_false, Nat.zero_add, Nat.lt_irrefl, Value.oneCell', gt_iff_lt, Nat.reduceLeDiff, Nat.lt_add_one, vvar_3, vzero_3, vknd_3, vsn_3, vvar_4, vzero_4, vknd_4, vsn_4, vsl_24, vkn_24, vvar_24, vzero_24, vvar_26, vzero_26, vbld_26, vsl_35, vkn_35, vvar_35, vzero_35, vfld_26_0, Int.toNat_zero, Int.reduceToNat]; try simp (disch := omega) only [wrap64]) | (with_reducible refine hK' _ ?_; clear hK' K') | (with_reducible refine hK _ ?_; clear hK K) | (with_reducible first | refine vCall_pure (in39_ac _ _ _ _) ?_ | refine And.intro (And.intro rfl rfl) ?_ | refine And.intro (by omega) ?_) | (with_reducible refine And.intro (fun hg => ?_) (fun hg => ?_) <;> first | simp only [eq_false hg, decide_true, decide_false, and_true, true_and, and_false, false_and, not_true_eq_false, not_false_eq_true] | simp only [eq_true hg, decide_true, decide_false, and_true, true_and, and_false, false_and, not_true_eq_false, not_false_eq_true] | simp only [hg, decide_true, decide_false, and_true, true_and, and_false, false_and, not_true_eq_false, not_false_eq_true]) | (with_reducible first | refine And.intro rfl (And.intro rfl rfl) | refine thenQ_n ?_ | refine thenQ_exit ?_ | refine thenQ_ret ?_ | refine midQ_ret ?_ | refine midQ_exit ?_ | refine blockQ_same ?_ | refine blockQ_ne (by decide) ?_ | refine blockQ_ret ?_ | refine blockQ_n ?_ | refine AW.exit ?_ | refine AW.block ?_ | refine AW.cond_t rfl ?_ | refine AW.cond_f rfl ?_ | refine AW.cond_dec rfl (fun hc => ?_) (fun hc => ?_)) | (with_reducible refine AW.cond rfl (fun hc => ?_) (fun hc => ?_) <;> try simp only [Bool.not_eq_eq_eq_not, Bool.not_true, Bool.not_false, decide_eq_true_eq, decide_eq_false_iff_not] at hc) | (with_reducible first | refine AW.seq ?_ | refine AW.skip ?_ | refine AW.ret ?_ | refine And.intro ?_ ?_) | (with_reducible intro hg; first | simp only [eq_false hg, decide_true, decide_false, and_true, true_and, and_false, false_and, not_true_eq_false, not_false_eq_true] | simp only [eq_true hg, decide_true, decide_false, and_true, true_and, and_false, false_and, not_true_eq_false, not_false_eq_true]) | (with_reducible refine retQ_drop ?_; simp only [vRes, packRes, vLoad, vPart, lk, cond, Nat.reduceBEq, get_loc, getD_zero, getD_succ, true_and, List.length_cons, List.length_nil, Nat.reduceAdd, Nat.reduceLT, Nat.reduceLeDiff, List.take_succ_cons, List.take_zero, List.drop_succ_cons, List.drop_zero, vvar_3, vzero_3, vknd_3, vsn_3, vvar_4, vzero_4, vknd_4, vsn_4, vsl_24, vkn_24, vvar_24, vzero_24, vvar_26, vzero_26, vbld_26, vsl_35, vkn_35, vvar_35, vzero_35, vfld_26_0]) )
  all_goals first
    | (refine ⟨_, _, FinOk.drop hB (Pl.ids (by (repeat' (first | exact Pl.v _ | exact Pl.junk | exact Pl.rd rfl _ | exact pl_nil | refine pl_cons ?_ ?_ | refine Pl.agg ?_ | refine Pl.tup ?_ | refine Pl.rp ?_ | refine Pl.fn ?_)); (first | done | fail))), ?_, rfl⟩
       refine v_bool ?_
       simp only [Bool.false_eq_true, false_iff]
       intro h; have h1 := h.1; have h2 := h.2.1; unfold width at h2; omega)
    | skip
  refine AW.loop (fun y : Nat => (⟨39, [(1, .ptr 1 (H.length + 0) 0 0), (20, .rd (.sli .i64) (m)), (21, .v (.int .i64 ((m.length : Int)))), (22, .v (.int .i64 ((y : Int))))], H, [.box false [.rd (.sli .i64) (m)]]⟩ : St)) (fun y => y ≤ m.length ∧ ∀ j, j < y → RowIs (width m) (m.getD j [])) (fun y => m.length - y) 0 ⟨Nat.zero_le _, fun j h => absurd h (by omega)⟩ (Weak.slots (by repeat' first | exact trivial | exact ⟨rfl, trivial⟩ | refine ⟨rfl, ?_⟩)) ?_
  intro y ⟨hy, hY⟩
  have hl := hm2 y
  repeat' (first | (with_reducible first | refine AW.sreg envOk fun K hK => ?_ | refine AW.region envOk fun K hK => ?_ | refine vcL_nil ?_) | (with_reducible (first | refine vcL_cons fun K' hK' => ?_); simp only [isC, Bool.false_or, Bool.or_true, ↓reduceDIte, List.take_length, Nat.le_refl, List.drop_zero, vGuard, undef, Bool.not_eq_eq_eq_not, dstOk, vcOp, vcF, isPure, putS, vcCall, St.ev, St.put, lk, AVal.ofVal, initS, Nat.reduceLT, true_and, and_true, vBin, vUn, vPick, vPart, vLoad, vIdxA, vFldA, vLen, vBox, partsA, fillA, decAll, AVal.flat, AVal.cell, cellsOk, setRange, ETy.enc, ETy.dec, ETy.sz, ETy.d, cond, Nat.reduceBEq, Nat.reduceAdd, Int.toNat_natCast, List.length_set, List.length_append, List.length_replicate, List.length_take, Nat.reduceSub, Nat.reduceEqDiff, get_loc, setBox_loc, next_eq, List.length_cons, List.length_nil, List.map_cons, List.map_nil, List.append_nil, List.nil_append, List.cons_append, List.set_cons_zero, List.set_cons_succ, getD_zero, getD_succ, List.getElem?_cons_succ, List.getElem?_cons_zero, List.take_succ_cons, List.take_zero, List.drop_succ_cons, List.all_cons, List.all_nil, Bool.and_true, Bool.true_and, Option.bind_some, Option.map_some, Option.map_none, decide_eq_true_eq, decide_eq_false_iff_not, ne_eq, Bool.not_eq_true, Bool.not_eq_false, Decidable.not_not, not_true_eq_false, not_false_eq_true, forall_const, false_implies, Bool.true_eq_false, Bool.false_eq_true, reduceCtorEq, decide_true, decide_false, Bool.not_true, Bool.not_false, if_true, if_false, Nat.zero_add, Nat.lt_irrefl, Value.oneCell', gt_iff_lt, Nat.reduceLeDiff, Nat.lt_add_one, vvar_3, vzero_3, vknd_3, vsn_3, vvar_4, vzero_4, vknd_4, vsn_4, vsl_24, vkn_24, vvar_24, vzero_24, vvar_26, vzero_26, vbld_26, vsl_35, vkn_35, vvar_35, vzero_35, vfld_26_0, Int.toNat_zero, Int.reduceToNat]; try simp (disch := omega) only [wrap64]) | (with_reducible refine hK' _ ?_; clear hK' K') | (with_reducible refine hK _ ?_; clear hK K) | (with_reducible first | refine vCall_pure (in39_ac _ _ _ _) ?_ | refine vCall_pure (cont40_ac _ (by omega) _) ?_ | refine And.intro (And.intro rfl rfl) ?_ | refine And.intro (by omega) ?_) | (with_reducible refine And.intro (fun hg => ?_) (fun hg => ?_) <;> first | simp only [eq_false hg, decide_true, decide_false, and_true, true_and, and_false, false_and, not_true_eq_false, not_false_eq_true] | simp only [eq_true hg, decide_true, decide_false, and_true, true_and, and_false, false_and, not_true_eq_false, not_false_eq_true] | simp only [hg, decide_true, decide_false, and_true, true_and, and_false, false_and, not_true_eq_false, not_false_eq_true]) | (with_reducible first | refine And.intro rfl (And.intro rfl rfl) | refine thenQ_n ?_ | refine thenQ_exit ?_ | refine thenQ_ret ?_ | refine midQ_ret ?_ | refine midQ_exit ?_ | refine blockQ_same ?_ | refine blockQ_ne (by decide) ?_ | refine blockQ_ret ?_ | refine blockQ_n ?_ | refine AW.exit ?_ | refine AW.block ?_ | refine AW.cond_t rfl ?_ | refine AW.cond_f rfl ?_ | refine AW.cond_dec rfl (fun hc => ?_) (fun hc => ?_)) | (with_reducible refine AW.cond rfl (fun hc => ?_) (fun hc => ?_) <;> try simp only [Bool.not_eq_eq_eq_not, Bool.not_true, Bool.not_false, decide_eq_true_eq, decide_eq_false_iff_not] at hc) | (with_reducible first | refine AW.seq ?_ | refine AW.skip ?_ | refine AW.ret ?_ | refine And.intro ?_ ?_) | (with_reducible intro hg; first | simp only [eq_false hg, decide_true, decide_false, and_true, true_and, and_false, false_and, not_true_eq_false, not_false_eq_true] | simp only [eq_true hg, decide_true, decide_false, and_true, true_and, and_false, false_and, not_true_eq_false, not_false_eq_true]) | (with_reducible refine retQ_drop ?_; simp only [vRes, packRes, vLoad, vPart, lk, cond, Nat.reduceBEq, get_loc, getD_zero, getD_succ, true_and, List.length_cons, List.length_nil, Nat.reduceAdd, Nat.reduceLT, Nat.reduceLeDiff, List.take_succ_cons, List.take_zero, List.drop_succ_cons, List.drop_zero, vvar_3, vzero_3, vknd_3, vsn_3, vvar_4, vzero_4, vknd_4, vsn_4, vsl_24, vkn_24, vvar_24, vzero_24, vvar_26, vzero_26, vbld_26, vsl_35, vkn_35, vvar_35, vzero_35, vfld_26_0]) )
  all_goals first
    | (refine ⟨_, _, FinOk.drop hB (Pl.ids (by (repeat' (first | exact Pl.v _ | exact Pl.junk | exact Pl.rd rfl _ | exact pl_nil | refine pl_cons ?_ ?_ | refine Pl.agg ?_ | refine Pl.tup ?_ | refine Pl.rp ?_ | refine Pl.fn ?_)); (first | done | fail))), ?_, rfl⟩
       refine v_bool ?_
       simp only [Bool.false_eq_true, false_iff]
       intro h
       have h1 := h.2.2 y (by omega)
       have h2 := h1.1
       unfold width at h2
       first | omega | exact absurd h1.2 (by assumption))
    | (refine ⟨y + 1, ⟨by omega, fun j hj => ?_⟩, by omega, (Weak.slots (by repeat' first | exact trivial | exact ⟨rfl, trivial⟩ | refine ⟨rfl, ?_⟩))⟩
       by_cases e : j = y
       · subst e
         refine ⟨by unfold width; omega, by assumption⟩
       · exact hY j (by omega))
    | (refine ⟨_, _, FinOk.drop hB (Pl.ids (by (repeat' (first | exact Pl.v _ | exact Pl.junk | exact Pl.rd rfl _ | exact pl_nil | refine pl_cons ?_ ?_ | refine Pl.agg ?_ | refine Pl.tup ?_ | refine Pl.rp ?_ | refine Pl.fn ?_)); (first | done | fail))), ?_, rfl⟩
       refine v_bool ?_
       simp only [true_iff]
       exact ⟨by omega, by unfold width; omega, fun j hj => hY j (by omega)⟩)
theorem Fits.of {m : Mz} (h : m.length ≤ maxLen) (hw : ∀ y ∈ m, (ETy.sli .i64).wf y) : Fits 9223372036854775807 m := ⟨h, fun i => by
  by_cases hi : i < m.length
  · have hmem : m.getD i [] ∈ m := by
      simp only [List.getD, List.getElem?_eq_getElem hi, Option.getD_some]; exact List.getElem_mem hi
    exact (hw _ hmem).1
  · rw [getD_none hi]; simp⟩
end Go.Proofs.Ytlfhhgfhoddgpaa
end
section
set_option linter.unusedSimpArgs false
set_option linter.unusedVariables false
set_option maxHeartbeats 1000000
namespace Go.Proofs.Ytlfhhgfhoddgpaa
open Go.Eng
theorem open55_ac (m : Mz) (p : Pt) (hm : MzOk m) (H : List ABox) : AC Try.prog 23 [.rp [.rd (.sli .i64) (m)] 0, .agg [.v (.int .i64 (p).1), .v (.int .i64 (p).2)]] H (fun r H' => r = .v (.bool (decide (OpenAt m p))) ∧ H' = H) := by
  obtain ⟨h1, h2, h3⟩ := hm
  have hr := h3 p.2.toNat
  unfold width RowIs at *
  have hr1 : 0 ≤ p.2 ∧ p.2 ≤ (m.length : Int) - 1 → (m.getD p.2.toNat []).length = (m.getD 0 []).length := fun h => (hr (by omega)).1
  refine AC.enter envOk Try.func23 rfl (by decide) Try.ntmps23 Try.results23 (by simp) fun hB => ?_
  repeat' (first | (with_reducible first | refine AW.sreg envOk fun K hK => ?_ | refine AW.region envOk fun K hK => ?_) | (with_reducible refine AW.d0reg envOk mixed ?_ ?_ fun K hK => ?_; (first | rfl | exact base_len | exact base_len0); kernel_rfl) | (with_reducible refine AW.d0 envOk mixed ?_ ?_ fun K hK => ?_; (first | rfl | exact base_len | exact base_len0); kernel_rfl) | (with_reducible first | refine vcD_nil ?_ | refine vcL_nil ?_) | (with_reducible (first | refine vcD_cons fun K' hK' => ?_ | refine vcL_cons fun K' hK' => ?_); simp only [isC, Bool.false_or, Bool.or_true, ↓reduceDIte, List.take_length, Nat.le_refl, List.drop_zero, vGuard, undef, Bool.not_eq_eq_eq_not, dstOk, vcOp, vcF, isPure, putS, vcCall, St.ev, St.put, lk, AVal.ofVal, initS, Nat.reduceLT, true_and, and_true, vBin, vPick, vPart, vLoad, vIdxA, vFldA, vLen, vNil, vBox, partsA, fillA, decAll, AVal.flat, AVal.cell, cellsOk, setRange, ETy.enc, ETy.dec, ETy.sz, ETy.d, cond, Nat.reduceBEq, Nat.reduceAdd, Int.toNat_natCast, List.length_set, List.length_append, List.length_replicate, List.length_take, Nat.reduceSub, Nat.reduceEqDiff, get_loc, setBox_loc, next_eq, List.length_cons, List.length_nil, List.map_cons, List.map_nil, List.append_nil, List.nil_append, List.cons_append, List.set_cons_zero, List.set_cons_succ, getD_zero, getD_succ, List.getElem?_cons_succ, List.getElem?_cons_zero, List.take_succ_cons, List.take_zero, List.drop_succ_cons, List.all_cons, List.all_nil, Bool.and_true, Bool.true_and, Option.bind_some, Option.map_some, Option.map_none, decide_eq_true_eq, decide_eq_false_iff_not, ne_eq, Bool.not_eq_true, Bool.not_eq_false, Decidable.not_not, not_true_eq_false, not_false_eq_true, forall_const, false_implies, Bool.true_eq_false, Bool.false_eq_true, reduceCtorEq, decide_true, decide_false, Bool.not_true, Bool.not_false, if_true, if_false, Nat.zero_add, Nat.lt_irrefl, Value.oneCell', gt_iff_lt, Nat.reduceLeDiff, Nat.lt_add_one, vvar_2, vzero_2, vknd_2, vsn_2, vvar_3, vzero_3, vknd_3, vsn_3, vvar_4, vzero_4, vknd_4, vsn_4, vsl_24, vkn_24, vvar_24, vzero_24, vvar_26, vzero_26, vbld_26, vvar_29, vzero_29, vbld_29, vpts_29, vsl_35, vkn_35, vvar_35, vzero_35, vvar_55, vzero_55, vfld_26_0, vfld_29_0, vfld_29_1, Int.toNat_zero, Int.reduceToNat]; try simp (disch := omega) only [wrap64]) | (with_reducible refine hK' _ ?_; clear hK' K') | (with_reducible refine hK _ ?_; clear hK K) | (with_reducible first | refine vcC_pure (in68_ac _ _ _ _) ?_ | refine vCall_pure (in68_ac _ _ _ _) ?_ | refine And.intro (And.intro rfl rfl) ?_ | refine And.intro (by omega) ?_) | (with_reducible refine And.intro (fun hg => ?_) (fun hg => ?_) <;> first | simp only [eq_false hg, decide_true, decide_false, and_true, true_and, and_false, false_and, not_true_eq_false, not_false_eq_true] | simp only [eq_true hg, decide_true, decide_false, and_true, true_and, and_false, false_and, not_true_eq_false, not_false_eq_true] | simp only [hg, decide_true, decide_false, and_true, true_and, and_false, false_and, not_true_eq_false, not_false_eq_true]) | (with_reducible first | refine And.intro rfl (And.intro rfl rfl) | refine thenQ_n ?_ | refine thenQ_exit ?_ | refine thenQ_ret ?_ | refine midQ_ret ?_ | refine midQ_exit ?_ | refine blockQ_same ?_ | refine blockQ_ne (by decide) ?_ | refine blockQ_ret ?_ | refine blockQ_n ?_ | refine AW.exit ?_ | refine AW.block ?_ | refine AW.cond_t rfl ?_ | refine AW.cond_f rfl ?_ | refine AW.cond_dec rfl (fun hc => ?_) (fun hc => ?_)) | (with_reducible refine AW.cond rfl (fun hc => ?_) (fun hc => ?_) <;> try simp only [Bool.not_eq_eq_eq_not, Bool.not_true, Bool.not_false, decide_eq_true_eq, decide_eq_false_iff_not] at hc) | (with_reducible first | refine AW.seq ?_ | refine AW.skip ?_ | refine AW.ret ?_ | refine And.intro ?_ ?_) | (with_reducible intro hg; first | simp only [eq_false hg, decide_true, decide_false, and_true, true_and, and_false, false_and, not_true_eq_false, not_false_eq_true] | simp only [eq_true hg, decide_true, decide_false, and_true, true_and, and_false, false_and, not_true_eq_false, not_false_eq_true]) | (with_reducible refine retQ_drop ?_; simp only [vRes, packRes, vLoad, vPart, lk, cond, Nat.reduceBEq, get_loc, getD_zero, getD_succ, true_and, List.length_cons, List.length_nil, Nat.reduceAdd, Nat.reduceLT, Nat.reduceLeDiff, List.take_succ_cons, List.take_zero, List.drop_succ_cons, List.drop_zero, vvar_2, vzero_2, vknd_2, vsn_2, vvar_3, vzero_3, vknd_3, vsn_3, vvar_4, vzero_4, vknd_4, vsn_4, vsl_24, vkn_24, vvar_24, vzero_24, vvar_26, vzero_26, vbld_26, vvar_29, vzero_29, vbld_29, vpts_29, vsl_35, vkn_35, vvar_35, vzero_35, vvar_55, vzero_55, vfld_26_0, vfld_29_0, vfld_29_1]) )
  all_goals refine ⟨_, _, FinOk.drop hB (Pl.ids (by (repeat' (first | exact Pl.v _ | exact Pl.junk | exact Pl.rd rfl _ | exact pl_nil | refine pl_cons ?_ ?_ | refine Pl.agg ?_ | refine Pl.tup ?_ | refine Pl.rp ?_ | refine Pl.fn ?_)); (first | done | fail))), ?_, rfl⟩
  all_goals refine v_bool ?_
  all_goals first
    | (simp only [Bool.false_eq_true, false_iff]
       intro h
       first | exact absurd h.1.1 (by assumption) | exact absurd h.1.2 (by assumption))
    | (simp only [decide_eq_true_eq]
       exact ⟨fun h => ⟨⟨by assumption, by assumption⟩, h⟩, fun h => h.2⟩)
theorem has59_ac (m : Mz) (p : Pt) (hm : MzOk m) (H : List ABox) : AC Try.prog 48 [.rp [.rd (.sli .i64) (m)] 0, .agg [.v (.int .i64 (p).1), .v (.int .i64 (p).2)]] H (fun r H' => r = .v (.bool (decide (InMz m p))) ∧ H' = H) := by
  obtain ⟨h1, h2, h3⟩ := hm
  unfold width at *
  refine AC.enter envOk Try.func48 rfl (by decide) Try.ntmps48 Try.results48 (by simp) fun hB => ?_
  repeat' (first | (with_reducible first | refine AW.sreg envOk fun K hK => ?_ | refine AW.region envOk fun K hK => ?_) | (with_reducible refine AW.d0reg envOk mixed ?_ ?_ fun K hK => ?_; (first | rfl | exact base_len | exact base_len0); kernel_rfl) | (with_reducible refine AW.d0 envOk mixed ?_ ?_ fun K hK => ?_; (first | rfl | exact base_len | exact base_len0); kernel_rfl) | (with_reducible first | refine vcD_nil ?_ | refine vcL_nil ?_) | (with_reducible (first | refine vcD_cons fun K' hK' => ?_ | refine vcL_cons fun K' hK' => ?_); simp only [isC, Bool.false_or, Bool.or_true, ↓reduceDIte, List.take_length, Nat.le_refl, List.drop_zero, vGuard, undef, Bool.not_eq_eq_eq_not, dstOk, vcOp, vcF, isPure, putS, vcCall, St.ev, St.put, lk, AVal.ofVal, initS, Nat.reduceLT, true_and, and_true, vBin, vPick, vPart, vLoad, vIdxA, vFldA, vLen, vNil, vBox, partsA, fillA, decAll, AVal.flat, AVal.cell, cellsOk, setRange, ETy.enc, ETy.dec, ETy.sz, ETy.d, cond, Nat.reduceBEq, Nat.reduceAdd, Int.toNat_natCast, List.length_set, List.length_append, List.length_replicate, List.length_take, Nat.reduceSub, Nat.reduceEqDiff, get_loc, setBox_loc, next_eq, List.length_cons, List.length_nil, List.map_cons, List.map_nil, List.append_nil, List.nil_append, List.cons_append, List.set_cons_zero, List.set_cons_succ, getD_zero, getD_succ, List.getElem?_cons_succ, List.getElem?_cons_zero, List.take_succ_cons, List.take_zero, List.drop_succ_cons, List.all_cons, List.all_nil, Bool.and_true, Bool.true_and, Option.bind_some, Option.map_some, Option.map_none, decide_eq_true_eq, decide_eq_false_iff_not, ne_eq, Bool.not_eq_true, Bool.not_eq_false, Decidable.not_not, not_true_eq_false, not_false_eq_true, forall_const, false_implies, Bool.true_eq_false, Bool.false_eq_true, reduceCtorEq, decide_true, decide_false, Bool.not_true, Bool.not_false, if_true, if_false, Nat.zero_add, Nat.lt_irrefl, Value.oneCell', gt_iff_lt, Nat.reduceLeDiff, Nat.lt_add_one, vvar_2, vzero_2, vknd_2, vsn_2, vvar_3, vzero_3, vknd_3, vsn_3, vvar_4, vzero_4, vknd_4, vsn_4, vsl_24, vkn_24, vvar_24, vzero_24, vvar_26, vzero_26, vbld_26, vvar_29, vzero_29, vbld_29, vpts_29, vsl_35, vkn_35, vvar_35, vzero_35, vvar_55, vzero_55, vfld_26_0, vfld_29_0, vfld_29_1, Int.toNat_zero, Int.reduceToNat]; try simp (disch := omega) only [wrap64]) | (with_reducible refine hK' _ ?_; clear hK' K') | (with_reducible refine hK _ ?_; clear hK K) | (with_reducible first | refine vcC_pure (in39_ac _ _ _ _) ?_ | refine vCall_pure (in39_ac _ _ _ _) ?_ | refine And.intro (And.intro rfl rfl) ?_ | refine And.intro (by omega) ?_) | (with_reducible refine And.intro (fun hg => ?_) (fun hg => ?_) <;> first | simp only [eq_false hg, decide_true, decide_false, and_true, true_and, and_false, false_and, not_true_eq_false, not_false_eq_true] | simp only [eq_true hg, decide_true, decide_false, and_true, true_and, and_false, false_and, not_true_eq_false, not_false_eq_true] | simp only [hg, decide_true, decide_false, and_true, true_and, and_false, false_and, not_true_eq_false, not_false_eq_true]) | (with_reducible first | refine And.intro rfl (And.intro rfl rfl) | refine thenQ_n ?_ | refine thenQ_exit ?_ | refine thenQ_ret ?_ | refine midQ_ret ?_ | refine midQ_exit ?_ | refine blockQ_same ?_ | refine blockQ_ne (by decide) ?_ | refine blockQ_ret ?_ | refine blockQ_n ?_ | refine AW.exit ?_ | refine AW.block ?_ | refine AW.cond_t rfl ?_ | refine AW.cond_f rfl ?_ | refine AW.cond_dec rfl (fun hc => ?_) (fun hc => ?_)) | (with_reducible refine AW.cond rfl (fun hc => ?_) (fun hc => ?_) <;> try simp only [Bool.not_eq_eq_eq_not, Bool.not_true, Bool.not_false, decide_eq_true_eq, decide_eq_false_iff_not] at hc) | (with_reducible first | refine AW.seq ?_ | refine AW.skip ?_ | refine AW.ret ?_ | refine And.intro ?_ ?_) | (with_reducible intro hg; first | simp only [eq_false hg, decide_true, decide_false, and_true, true_and, and_false, false_and, not_true_eq_false, not_false_eq_true] | simp only [eq_true hg, decide_true, decide_false, and_true, true_and, and_false, false_and, not_true_eq_false, not_false_eq_true]) | (with_reducible refine retQ_drop ?_; simp only [vRes, packRes, vLoad, vPart, lk, cond, Nat.reduceBEq, get_loc, getD_zero, getD_succ, true_and, List.length_cons, List.length_nil, Nat.reduceAdd, Nat.reduceLT, Nat.reduceLeDiff, List.take_succ_cons, List.take_zero, List.drop_succ_cons, List.drop_zero, vvar_2, vzero_2, vknd_2, vsn_2, vvar_3, vzero_3, vknd_3, vsn_3, vvar_4, vzero_4, vknd_4, vsn_4, vsl_24, vkn_24, vvar_24, vzero_24, vvar_26, vzero_26, vbld_26, vvar_29, vzero_29, vbld_29, vpts_29, vsl_35, vkn_35, vvar_35, vzero_35, vvar_55, vzero_55, vfld_26_0, vfld_29_0, vfld_29_1]) )
  all_goals refine ⟨_, _, FinOk.drop hB (Pl.ids (by (repeat' (first | exact Pl.v _ | exact Pl.junk | exact Pl.rd rfl _ | exact pl_nil | refine pl_cons ?_ ?_ | refine Pl.agg ?_ | refine Pl.tup ?_ | refine Pl.rp ?_ | refine Pl.fn ?_)); (first | done | fail))), ?_, rfl⟩
  all_goals refine v_bool ?_
  all_goals first
    | (simp only [Bool.false_eq_true, false_iff]
       intro h
       exact absurd h.1 (by assumption))
    | (simp only [decide_eq_true_eq]
       exact ⟨fun h => ⟨by assumption, h⟩, fun h => h.2⟩)
theorem price49_ac (m : Mz) (p : Pt) (hm : MzOk m) (hp : InMz m p) (H : List ABox) : AC Try.prog 31 [.rp [.rd (.sli .i64) (m)] 0, .agg [.v (.int .i64 (p).1), .v (.int .i64 (p).2)]] H (fun r H' => r = .v (.int .i64 (cell m p)) ∧ H' = H) := by
  obtain ⟨g1, g2, g3, g4⟩ := hm.cell hp
  obtain ⟨⟨p1, p2⟩, p3, p4⟩ := hp
  refine AC.enter envOk Try.func31 rfl (by decide) Try.ntmps31 Try.results31 (by simp) fun hB => ?_
  repeat' (first | (with_reducible first | refine AW.sreg envOk fun K hK => ?_ | refine AW.region envOk fun K hK => ?_) | (with_reducible refine AW.d0reg envOk mixed ?_ ?_ fun K hK => ?_; (first | rfl | exact base_len | exact base_len0); kernel_rfl) | (with_reducible refine AW.d0 envOk mixed ?_ ?_ fun K hK => ?_; (first | rfl | exact base_len | exact base_len0); kernel_rfl) | (with_reducible first | refine vcD_nil ?_ | refine vcL_nil ?_) | (with_reducible (first | refine vcD_cons fun K' hK' => ?_ | refine vcL_cons fun K' hK' => ?_); simp only [isC, Bool.false_or, Bool.or_true, ↓reduceDIte, List.take_length, Nat.le_refl, List.drop_zero, vGuard, undef, Bool.not_eq_eq_eq_not, dstOk, vcOp, vcF, isPure, putS, vcCall, St.ev, St.put, lk, AVal.ofVal, initS, Nat.reduceLT, true_and, and_true, vPart, vLoad, vIdxA, vFldA, vNil, vBox, partsA, fillA, decAll, AVal.flat, AVal.cell, cellsOk, setRange, ETy.enc, ETy.dec, ETy.sz, ETy.d, cond, Nat.reduceBEq, Nat.reduceAdd, Int.toNat_natCast, List.length_set, List.length_append, List.length_replicate, List.length_take, Nat.reduceSub, Nat.reduceEqDiff, get_loc, setBox_loc, next_eq, List.length_cons, List.length_nil, List.map_cons, List.map_nil, List.append_nil, List.nil_append, List.cons_append, List.set_cons_zero, List.set_cons_succ, getD_zero, getD_succ, List.getElem?_cons_succ, List.getElem?_cons_zero, List.take_succ_cons, List.take_zero, List.drop_succ_cons, List.all_cons, List.all_nil, Bool.and_true, Bool.true_and, Option.bind_some, Option.map_some, Option.map_none, decide_eq_true_eq, decide_eq_false_iff_not, ne_eq, Bool.not_eq_true, Bool.not_eq_false, Decidable.not_not, not_true_eq_false, not_false_eq_true, forall_const, false_implies, Bool.true_eq_false, Bool.false_eq_true, reduceCtorEq, decide_true, decide_false, Bool.not_true, Bool.not_false, if_true, if_false, Nat.zero_add, Nat.lt_irrefl, Value.oneCell', gt_iff_lt, Nat.reduceLeDiff, Nat.lt_add_one, vvar_2, vzero_2, vknd_2, vsn_2, vsl_24, vkn_24, vvar_24, vzero_24, vvar_26, vzero_26, vbld_26, vvar_29, vzero_29, vbld_29, vpts_29, vsl_35, vkn_35, vvar_35, vzero_35, vvar_55, vzero_55, vfld_26_0, vfld_29_0, vfld_29_1]; try simp (disch := omega) only [wrap64]) | (with_reducible refine hK' _ ?_; clear hK' K') | (with_reducible refine hK _ ?_; clear hK K) | (with_reducible first | refine And.intro (And.intro rfl rfl) ?_ | refine And.intro (by omega) ?_) | (with_reducible refine And.intro (fun hg => ?_) (fun hg => ?_) <;> first | simp only [eq_false hg, decide_true, decide_false, and_true, true_and, and_false, false_and, not_true_eq_false, not_false_eq_true] | simp only [eq_true hg, decide_true, decide_false, and_true, true_and, and_false, false_and, not_true_eq_false, not_false_eq_true] | simp only [hg, decide_true, decide_false, and_true, true_and, and_false, false_and, not_true_eq_false, not_false_eq_true]) | (with_reducible first | refine And.intro rfl (And.intro rfl rfl) | refine thenQ_n ?_ | refine thenQ_exit ?_ | refine thenQ_ret ?_ | refine midQ_ret ?_ | refine midQ_exit ?_ | refine blockQ_same ?_ | refine blockQ_ne (by decide) ?_ | refine blockQ_ret ?_ | refine blockQ_n ?_ | refine AW.exit ?_ | refine AW.block ?_ | refine AW.cond_t rfl ?_ | refine AW.cond_f rfl ?_ | refine AW.cond_dec rfl (fun hc => ?_) (fun hc => ?_)) | (with_reducible refine AW.cond rfl (fun hc => ?_) (fun hc => ?_) <;> try simp only [Bool.not_eq_eq_eq_not, Bool.not_true, Bool.not_false, decide_eq_true_eq, decide_eq_false_iff_not] at hc) | (with_reducible first | refine AW.seq ?_ | refine AW.skip ?_ | refine AW.ret ?_ | refine And.intro ?_ ?_) | (with_reducible intro hg; first | simp only [eq_false hg, decide_true, decide_false, and_true, true_and, and_false, false_and, not_true_eq_false, not_false_eq_true] | simp only [eq_true hg, decide_true, decide_false, and_true, true_and, and_false, false_and, not_true_eq_false, not_false_eq_true]) | (with_reducible refine retQ_drop ?_; simp only [vRes, packRes, vLoad, vPart, lk, cond, Nat.reduceBEq, get_loc, getD_zero, getD_succ, true_and, List.length_cons, List.length_nil, Nat.reduceAdd, Nat.reduceLT, Nat.reduceLeDiff, List.take_succ_cons, List.take_zero, List.drop_succ_cons, List.drop_zero, vvar_2, vzero_2, vknd_2, vsn_2, vsl_24, vkn_24, vvar_24, vzero_24, vvar_26, vzero_26, vbld_26, vvar_29, vzero_29, vbld_29, vpts_29, vsl_35, vkn_35, vvar_35, vzero_35, vvar_55, vzero_55, vfld_26_0, vfld_29_0, vfld_29_1]) )
  exact ⟨_, _, FinOk.drop hB (Pl.ids (by (repeat' (first | exact Pl.v _ | exact Pl.junk | exact Pl.rd rfl _ | exact pl_nil | refine pl_cons ?_ ?_ | refine Pl.agg ?_ | refine Pl.tup ?_ | refine Pl.rp ?_ | refine Pl.fn ?_)); (first | done | fail))), rfl, rfl⟩
theorem open44_ac (m : Mz) (p : Pt) (hm : MzOk m) (H : List ABox) : AC Try.prog 36 [.rp [.rd (.sli .i64) (m)] 0, .agg [.v (.int .i64 (p).1), .v (.int .i64 (p).2)]] H (fun r H' => r = .v (.bool (decide (OpenAt m p))) ∧ H' = H) := by
  have hc : InMz m p → 0 ≤ cell m p := fun h => (hm.cell h).2.2.2.1
  refine AC.enter envOk Try.func36 rfl (by decide) Try.ntmps36 Try.results36 (by simp) fun hB => ?_
  repeat' (first | (with_reducible first | refine AW.sreg envOk fun K hK => ?_ | refine AW.region envOk fun K hK => ?_ | refine vcL_nil ?_) | (with_reducible (first | refine vcL_cons fun K' hK' => ?_); simp only [isC, Bool.false_or, Bool.or_true, ↓reduceDIte, List.take_length, Nat.le_refl, List.drop_zero, vGuard, undef, Bool.not_eq_eq_eq_not, dstOk, vcOp, vcF, isPure, putS, vcCall, St.ev, St.put, lk, AVal.ofVal, initS, Nat.reduceLT, true_and, and_true, vBin, vPick, vPart, vLoad, vBox, partsA, fillA, decAll, AVal.flat, AVal.cell, cellsOk, setRange, ETy.enc, ETy.dec, ETy.sz, ETy.d, cond, Nat.reduceBEq, Nat.reduceAdd, Int.toNat_natCast, List.length_set, List.length_append, List.length_replicate, List.length_take, Nat.reduceSub, Nat.reduceEqDiff, get_loc, setBox_loc, next_eq, List.length_cons, List.length_nil, List.map_cons, List.map_nil, List.append_nil, List.nil_append, List.cons_append, List.set_cons_zero, List.set_cons_succ, getD_zero, getD_succ, List.getElem?_cons_succ, List.getElem?_cons_zero, List.take_succ_cons, List.take_zero, List.drop_succ_cons, List.all_cons, List.all_nil, Bool.and_true, Bool.true_and, Option.bind_some, Option.map_some, Option.map_none, decide_eq_true_eq, decide_eq_false_iff_not, ne_eq, Bool.not_eq_true, Bool.not_eq_false, Decidable.not_not, not_true_eq_false, not_false_eq_true, forall_const, false_implies, Bool.true_eq_false, Bool.false_eq_true, reduceCtorEq, decide_true, decide_false, Bool.not_true, Bool.not_false, if_true, if_false, Nat.zero_add, Nat.lt_irrefl, Value.oneCell', gt_iff_lt, Nat.reduceLeDiff, Nat.lt_add_one, vvar_2, vzero_2, vknd_2, vsn_2, vvar_4, vzero_4, vknd_4, vsn_4, vvar_29, vzero_29, vbld_29, vpts_29, vvar_55, vzero_55]; try simp (disch := omega) only [wrap64]) | (with_reducible refine hK' _ ?_; clear hK' K') | (with_reducible refine hK _ ?_; clear hK K) | (with_reducible first | refine vCall_pure (has59_ac m p hm _) ?_ | refine vCall_pure (price49_ac m p hm (by assumption) _) ?_ | refine And.intro (And.intro rfl rfl) ?_ | refine And.intro (by omega) ?_) | (with_reducible refine And.intro (fun hg => ?_) (fun hg => ?_) <;> first | simp only [eq_false hg, decide_true, decide_false, and_true, true_and, and_false, false_and, not_true_eq_false, not_false_eq_true] | simp only [eq_true hg, decide_true, decide_false, and_true, true_and, and_false, false_and, not_true_eq_false, not_false_eq_true] | simp only [hg, decide_true, decide_false, and_true, true_and, and_false, false_and, not_true_eq_false, not_false_eq_true]) | (with_reducible first | refine And.intro rfl (And.intro rfl rfl) | refine thenQ_n ?_ | refine thenQ_exit ?_ | refine thenQ_ret ?_ | refine midQ_ret ?_ | refine midQ_exit ?_ | refine blockQ_same ?_ | refine blockQ_ne (by decide) ?_ | refine blockQ_ret ?_ | refine blockQ_n ?_ | refine AW.exit ?_ | refine AW.block ?_ | refine AW.cond_t rfl ?_ | refine AW.cond_f rfl ?_ | refine AW.cond_dec rfl (fun hc => ?_) (fun hc => ?_)) | (with_reducible refine AW.cond rfl (fun hc => ?_) (fun hc => ?_) <;> try simp only [Bool.not_eq_eq_eq_not, Bool.not_true, Bool.not_false, decide_eq_true_eq, decide_eq_false_iff_not] at hc) | (with_reducible first | refine AW.seq ?_ | refine AW.skip ?_ | refine AW.ret ?_ | refine And.intro ?_ ?_) | (with_reducible intro hg; first | simp only [eq_false hg, decide_true, decide_false, and_true, true_and, and_false, false_and, not_true_eq_false, not_false_eq_true] | simp only [eq_true hg, decide_true, decide_false, and_true, true_and, and_false, false_and, not_true_eq_false, not_false_eq_true]) | (with_reducible refine retQ_drop ?_; simp only [vRes, packRes, vLoad, vPart, lk, cond, Nat.reduceBEq, get_loc, getD_zero, getD_succ, true_and, List.length_cons, List.length_nil, Nat.reduceAdd, Nat.reduceLT, Nat.reduceLeDiff, List.take_succ_cons, List.take_zero, List.drop_succ_cons, List.drop_zero, vvar_2, vzero_2, vknd_2, vsn_2, vvar_4, vzero_4, vknd_4, vsn_4, vvar_29, vzero_29, vbld_29, vpts_29, vvar_55, vzero_55]) )
  all_goals refine ⟨_, _, FinOk.drop hB (Pl.ids (by (repeat' (first | exact Pl.v _ | exact Pl.junk | exact Pl.rd rfl _ | exact pl_nil | refine pl_cons ?_ ?_ | refine Pl.agg ?_ | refine Pl.tup ?_ | refine Pl.rp ?_ | refine Pl.fn ?_)); (first | done | fail))), ?_, rfl⟩
  all_goals refine v_bool ?_
  · have h1 := hc (by assumption)
    simp only [decide_eq_true_eq]
    exact ⟨fun h => ⟨by assumption, by omega⟩, fun h => by have := h.2; omega⟩
  · simp only [Bool.false_eq_true, false_iff]
    exact fun h => absurd h.1 (by assumption)
theorem impl18_ac (m : Mz) (p : Pt) (hm : Fits 1048576 m) (H : List ABox) : AC Try.prog 18 [.agg [.rd (.sli .i64) (m)], .agg [.v (.int .i64 (p).1), .v (.int .i64 (p).2)]] H (fun r H' => r = .v (.bool (decide (MzOk m ∧ OpenAt m p))) ∧ H' = H) := by
  refine AC.enter envOk Try.func18 rfl (by decide) Try.ntmps18 Try.results18 (by simp) fun hB => ?_
  repeat' (first | (with_reducible first | refine AW.sreg envOk fun K hK => ?_ | refine AW.region envOk fun K hK => ?_ | refine vcL_nil ?_) | (with_reducible (first | refine vcL_cons fun K' hK' => ?_); simp only [isC, Bool.false_or, Bool.or_true, ↓reduceDIte, List.take_length, Nat.le_refl, List.drop_zero, vGuard, undef, Bool.not_eq_eq_eq_not, dstOk, vcOp, vcF, isPure, putS, vcCall, St.ev, St.put, lk, AVal.ofVal, initS, Nat.reduceLT, true_and, and_true, vPick, vPart, vLoad, vBox, partsA, fillA, decAll, AVal.flat, AVal.cell, cellsOk, setRange, ETy.enc, ETy.dec, ETy.sz, ETy.d, cond, Nat.reduceBEq, Nat.reduceAdd, Int.toNat_natCast, List.length_set, List.length_append, List.length_replicate, List.length_take, Nat.reduceSub, Nat.reduceEqDiff, get_loc, setBox_loc, next_eq, List.length_cons, List.length_nil, List.map_cons, List.map_nil, List.append_nil, List.nil_append, List.cons_append, List.set_cons_zero, List.set_cons_succ, getD_zero, getD_succ, List.getElem?_cons_succ, List.getElem?_cons_zero, List.take_succ_cons, List.take_zero, List.drop_succ_cons, List.all_cons, List.all_nil, Bool.and_true, Bool.true_and, Option.bind_some, Option.map_some, Option.map_none, decide_eq_true_eq, decide_eq_false_iff_not, ne_eq, Bool.not_eq_true, Bool.not_eq_false, Decidable.not_not, not_true_eq_false, not_false_eq_true, forall_const, false_implies, Bool.true_eq_false, Bool.false_eq_true, reduceCtorEq, decide_true, decide_false, Bool.not_true, Bool.not_false, if_true, if_false, Nat.zero_add, Nat.lt_irrefl, Value.oneCell', gt_iff_lt, Nat.reduceLeDiff, Nat.lt_add_one, vvar_4, vzero_4, vknd_4, vsn_4, vvar_26, vzero_26, vbld_26, vvar_29, vzero_29, vbld_29, vpts_29]; try simp (disch := omega) only [wrap64]) | (with_reducible refine hK' _ ?_; clear hK' K') | (with_reducible refine hK _ ?_; clear hK K) | (with_reducible refine vCall_pure (is14_ac m hm _) ?_) | ((with_reducible show vCall _ (AVal.fn 36 _) _ _ _); refine vCall_pure (AC.lent0 (by (repeat' (first | exact trivial | exact LentV.rowL rfl rfl rfl | exact LentV.rowL rfl rfl (by assumption) | refine LentV.boxL rfl ?_ | exact LentV.nil _ | exact LentV.same _ | refine LentV.aggL ?_ | refine And.intro ?_ ?_)); (first | done | fail)) (by (repeat' (first | exact NoRd.v _ | exact NoRd.sl | exact NoRd.mp | exact NoRd.tup nord_nil | refine NoRd.tup ?_ | refine NoRd.agg ?_ | exact nord_nil | refine nord_cons ?_ ?_)); (first | done | fail)) (open44_ac m p (by assumption) _)) ?_) | (with_reducible first | refine And.intro (And.intro rfl rfl) ?_ | refine And.intro (by omega) ?_) | (with_reducible refine And.intro (fun hg => ?_) (fun hg => ?_) <;> first | simp only [eq_false hg, decide_true, decide_false, and_true, true_and, and_false, false_and, not_true_eq_false, not_false_eq_true] | simp only [eq_true hg, decide_true, decide_false, and_true, true_and, and_false, false_and, not_true_eq_false, not_false_eq_true] | simp only [hg, decide_true, decide_false, and_true, true_and, and_false, false_and, not_true_eq_false, not_false_eq_true]) | (with_reducible first | refine And.intro rfl (And.intro rfl rfl) | refine thenQ_n ?_ | refine thenQ_exit ?_ | refine thenQ_ret ?_ | refine midQ_ret ?_ | refine midQ_exit ?_ | refine blockQ_same ?_ | refine blockQ_ne (by decide) ?_ | refine blockQ_ret ?_ | refine blockQ_n ?_ | refine AW.exit ?_ | refine AW.block ?_ | refine AW.cond_t rfl ?_ | refine AW.cond_f rfl ?_ | refine AW.cond_dec rfl (fun hc => ?_) (fun hc => ?_)) | (with_reducible refine AW.cond rfl (fun hc => ?_) (fun hc => ?_) <;> try simp only [Bool.not_eq_eq_eq_not, Bool.not_true, Bool.not_false, decide_eq_true_eq, decide_eq_false_iff_not] at hc) | (with_reducible first | refine AW.seq ?_ | refine AW.skip ?_ | refine AW.ret ?_ | refine And.intro ?_ ?_) | (with_reducible intro hg; first | simp only [eq_false hg, decide_true, decide_false, and_true, true_and, and_false, false_and, not_true_eq_false, not_false_eq_true] | simp only [eq_true hg, decide_true, decide_false, and_true, true_and, and_false, false_and, not_true_eq_false, not_false_eq_true]) | (with_reducible refine retQ_drop ?_; simp only [vRes, packRes, vLoad, vPart, lk, cond, Nat.reduceBEq, get_loc, getD_zero, getD_succ, true_and, List.length_cons, List.length_nil, Nat.reduceAdd, Nat.reduceLT, Nat.reduceLeDiff, List.take_succ_cons, List.take_zero, List.drop_succ_cons, List.drop_zero, vvar_4, vzero_4, vknd_4, vsn_4, vvar_26, vzero_26, vbld_26, vvar_29, vzero_29, vbld_29, vpts_29]) )
  all_goals refine ⟨_, _, FinOk.drop hB (Pl.ids (by (repeat' (first | exact Pl.v _ | exact Pl.junk | exact Pl.rd rfl _ | exact pl_nil | refine pl_cons ?_ ?_ | refine Pl.agg ?_ | refine Pl.tup ?_ | refine Pl.rp ?_ | refine Pl.fn ?_)); (first | done | fail))), ?_, rfl⟩
  all_goals refine v_bool ?_
  all_goals simp [*]
theorem step56_ac (p : Pt) (k : Int) (h1 : -1000000000 ≤ p.1 ∧ p.1 ≤ 1000000000) (h2 : -1000000000 ≤ p.2 ∧ p.2 ≤ 1000000000) (H : List ABox) : AC Try.prog 24 [.agg [.v (.int .i64 (p).1), .v (.int .i64 (p).2)], .v (.int .i64 (k))] H (fun r H' => r = .agg [.v (.int .i64 (stepTo p k).1), .v (.int .i64 (stepTo p k).2)] ∧ H' = H) := by
  refine AC.enter envOk Try.func24 rfl (by decide) Try.ntmps24 Try.results24 (by simp) fun hB => ?_
  repeat' (first | (with_reducible first | refine AW.sreg envOk fun K hK => ?_ | refine AW.region envOk fun K hK => ?_ | refine vcL_nil ?_) | (with_reducible (first | refine vcL_cons fun K' hK' => ?_); simp only [isC, Bool.false_or, Bool.or_true, ↓reduceDIte, List.take_length, Nat.le_refl, List.drop_zero, vGuard, undef, Bool.not_eq_eq_eq_not, dstOk, vcOp, vcF, isPure, putS, vcCall, St.ev, St.put, lk, AVal.ofVal, initS, Nat.reduceLT, true_and, and_true, vBin, vPart, vLoad, vStore, vFldA, vAlloc, vBox, vBuild, partsA, fillA, decAll, AVal.flat, AVal.cell, cellsOk, setRange, ETy.enc, ETy.dec, ETy.sz, ETy.d, cond, Nat.reduceBEq, Nat.reduceAdd, Int.toNat_natCast, List.length_set, List.length_append, List.length_replicate, List.length_take, Nat.reduceSub, Nat.reduceEqDiff, get_loc, setBox_loc, next_eq, List.length_cons, List.length_nil, List.map_cons, List.map_nil, List.append_nil, List.nil_append, List.cons_append, List.set_cons_zero, List.set_cons_succ, getD_zero, getD_succ, List.getElem?_cons_succ, List.getElem?_cons_zero, List.take_succ_cons, List.take_zero, List.drop_succ_cons, List.all_cons, List.all_nil, Bool.and_true, Bool.true_and, Option.bind_some, Option.map_some, Option.map_none, decide_eq_true_eq, decide_eq_false_iff_not, ne_eq, Bool.not_eq_true, Bool.not_eq_false, Decidable.not_not, not_true_eq_false, not_false_eq_true, forall_const, false_implies, Bool.true_eq_false, Bool.false_eq_true, reduceCtorEq, decide_true, decide_false, Bool.not_true, Bool.not_false, if_true, if_false, Nat.zero_add, Nat.lt_irrefl, Value.oneCell', gt_iff_lt, Nat.reduceLeDiff, Nat.lt_add_one, vvar_2, vzero_2, vknd_2, vsn_2, vvar_3, vzero_3, vknd_3, vsn_3, vvar_4, vzero_4, vknd_4, vsn_4, vvar_29, vzero_29, vbld_29, vpts_29, vfld_29_0, vfld_29_1]; try simp (disch := omega) only [wrap64]) | (with_reducible refine hK' _ ?_; clear hK' K') | (with_reducible refine hK _ ?_; clear hK K) | (with_reducible first | refine And.intro (And.intro rfl rfl) ?_ | refine And.intro (by omega) ?_) | (with_reducible refine And.intro (fun hg => ?_) (fun hg => ?_) <;> first | simp only [eq_false hg, decide_true, decide_false, and_true, true_and, and_false, false_and, not_true_eq_false, not_false_eq_true] | simp only [eq_true hg, decide_true, decide_false, and_true, true_and, and_false, false_and, not_true_eq_false, not_false_eq_true] | simp only [hg, decide_true, decide_false, and_true, true_and, and_false, false_and, not_true_eq_false, not_false_eq_true]) | (with_reducible first | refine And.intro rfl (And.intro rfl rfl) | refine thenQ_n ?_ | refine thenQ_exit ?_ | refine thenQ_ret ?_ | refine midQ_ret ?_ | refine midQ_exit ?_ | refine blockQ_same ?_ | refine blockQ_ne (by decide) ?_ | refine blockQ_ret ?_ | refine blockQ_n ?_ | refine AW.exit ?_ | refine AW.block ?_ | refine AW.cond_t rfl ?_ | refine AW.cond_f rfl ?_ | refine AW.cond_dec rfl (fun hc => ?_) (fun hc => ?_)) | (with_reducible refine AW.cond rfl (fun hc => ?_) (fun hc => ?_) <;> try simp only [Bool.not_eq_eq_eq_not, Bool.not_true, Bool.not_false, decide_eq_true_eq, decide_eq_false_iff_not] at hc) | (with_reducible first | refine AW.seq ?_ | refine AW.skip ?_ | refine AW.ret ?_ | refine And.intro ?_ ?_) | (with_reducible intro hg; first | simp only [eq_false hg, decide_true, decide_false, and_true, true_and, and_false, false_and, not_true_eq_false, not_false_eq_true] | simp only [eq_true hg, decide_true, decide_false, and_true, true_and, and_false, false_and, not_true_eq_false, not_false_eq_true]) | (with_reducible refine retQ_drop ?_; simp only [vRes, packRes, vLoad, vPart, lk, cond, Nat.reduceBEq, get_loc, getD_zero, getD_succ, true_and, List.length_cons, List.length_nil, Nat.reduceAdd, Nat.reduceLT, Nat.reduceLeDiff, List.take_succ_cons, List.take_zero, List.drop_succ_cons, List.drop_zero, vvar_2, vzero_2, vknd_2, vsn_2, vvar_3, vzero_3, vknd_3, vsn_3, vvar_4, vzero_4, vknd_4, vsn_4, vvar_29, vzero_29, vbld_29, vpts_29, vfld_29_0, vfld_29_1]) )
  all_goals refine ⟨_, _, FinOk.drop hB (Pl.ids (by (repeat' (first | exact Pl.v _ | exact Pl.junk | exact Pl.rd rfl _ | exact pl_nil | refine pl_cons ?_ ?_ | refine Pl.agg ?_ | refine Pl.tup ?_ | refine Pl.rp ?_ | refine Pl.fn ?_)); (first | done | fail))), ?_, rfl⟩
  all_goals simp [stepTo, *]
theorem step58_ac (p : Pt) (k : Int) (h1 : -1000000000 ≤ p.1 ∧ p.1 ≤ 1000000000) (h2 : -1000000000 ≤ p.2 ∧ p.2 ≤ 1000000000) (H : List ABox) : AC Try.prog 42 [.agg [.v (.int .i64 (p).1), .v (.int .i64 (p).2)], .v (.int .i64 (k))] H (fun r H' => r = .agg [.v (.int .i64 (stepTo p k).1), .v (.int .i64 (stepTo p k).2)] ∧ H' = H) := by
  refine AC.enter envOk Try.func42 rfl (by decide) Try.ntmps42 Try.results42 (by simp) fun hB => ?_
  repeat' (first | (with_reducible first | refine AW.sreg envOk fun K hK => ?_ | refine AW.region envOk fun K hK => ?_ | refine vcL_nil ?_) | (with_reducible (first | refine vcL_cons fun K' hK' => ?_); simp only [isC, Bool.false_or, Bool.or_true, ↓reduceDIte, List.take_length, Nat.le_refl, List.drop_zero, vGuard, undef, Bool.not_eq_eq_eq_not, dstOk, vcOp, vcF, isPure, putS, vcCall, St.ev, St.put, lk, AVal.ofVal, initS, Nat.reduceLT, true_and, and_true, vBin, vPart, vLoad, vStore, vFldA, vAlloc, vBox, vBuild, partsA, fillA, decAll, AVal.flat, AVal.cell, cellsOk, setRange, ETy.enc, ETy.dec, ETy.sz, ETy.d, cond, Nat.reduceBEq, Nat.reduceAdd, Int.toNat_natCast, List.length_set, List.length_append, List.length_replicate, List.length_take, Nat.reduceSub, Nat.reduceEqDiff, get_loc, setBox_loc, next_eq, List.length_cons, List.length_nil, List.map_cons, List.map_nil, List.append_nil, List.nil_append, List.cons_append, List.set_cons_zero, List.set_cons_succ, getD_zero, getD_succ, List.getElem?_cons_succ, List.getElem?_cons_zero, List.take_succ_cons, List.take_zero, List.drop_succ_cons, List.all_cons, List.all_nil, Bool.and_true, Bool.true_and, Option.bind_some, Option.map_some, Option.map_none, decide_eq_true_eq, decide_eq_false_iff_not, ne_eq, Bool.not_eq_true, Bool.not_eq_false, Decidable.not_not, not_true_eq_false, not_false_eq_true, forall_const, false_implies, Bool.true_eq_false, Bool.false_eq_true, reduceCtorEq, decide_true, decide_false, Bool.not_true, Bool.not_false, if_true, if_false, Nat.zero_add, Nat.lt_irrefl, Value.oneCell', gt_iff_lt, Nat.reduceLeDiff, Nat.lt_add_one, vvar_2, vzero_2, vknd_2, vsn_2, vvar_3, vzero_3, vknd_3, vsn_3, vvar_4, vzero_4, vknd_4, vsn_4, vvar_29, vzero_29, vbld_29, vpts_29, vfld_29_0, vfld_29_1]; try simp (disch := omega) only [wrap64]) | (with_reducible refine hK' _ ?_; clear hK' K') | (with_reducible refine hK _ ?_; clear hK K) | (with_reducible first | refine And.intro (And.intro rfl rfl) ?_ | refine And.intro (by omega) ?_) | (with_reducible refine And.intro (fun hg => ?_) (fun hg => ?_) <;> first | simp only [eq_false hg, decide_true, decide_false, and_true, true_and, and_false, false_and, not_true_eq_false, not_false_eq_true] | simp only [eq_true hg, decide_true, decide_false, and_true, true_and, and_false, false_and, not_true_eq_false, not_false_eq_true] | simp only [hg, decide_true, decide_false, and_true, true_and, and_false, false_and, not_true_eq_false, not_false_eq_true]) | (with_reducible first | refine And.intro rfl (And.intro rfl rfl) | refine thenQ_n ?_ | refine thenQ_exit ?_ | refine thenQ_ret ?_ | refine midQ_ret ?_ | refine midQ_exit ?_ | refine blockQ_same ?_ | refine blockQ_ne (by decide) ?_ | refine blockQ_ret ?_ | refine blockQ_n ?_ | refine AW.exit ?_ | refine AW.block ?_ | refine AW.cond_t rfl ?_ | refine AW.cond_f rfl ?_ | refine AW.cond_dec rfl (fun hc => ?_) (fun hc => ?_)) | (with_reducible refine AW.cond rfl (fun hc => ?_) (fun hc => ?_) <;> try simp only [Bool.not_eq_eq_eq_not, Bool.not_true, Bool.not_false, decide_eq_true_eq, decide_eq_false_iff_not] at hc) | (with_reducible first | refine AW.seq ?_ | refine AW.skip ?_ | refine AW.ret ?_ | refine And.intro ?_ ?_) | (with_reducible intro hg; first | simp only [eq_false hg, decide_true, decide_false, and_true, true_and, and_false, false_and, not_true_eq_false, not_false_eq_true] | simp only [eq_true hg, decide_true, decide_false, and_true, true_and, and_false, false_and, not_true_eq_false, not_false_eq_true]) | (with_reducible refine retQ_drop ?_; simp only [vRes, packRes, vLoad, vPart, lk, cond, Nat.reduceBEq, get_loc, getD_zero, getD_succ, true_and, List.length_cons, List.length_nil, Nat.reduceAdd, Nat.reduceLT, Nat.reduceLeDiff, List.take_succ_cons, List.take_zero, List.drop_succ_cons, List.drop_zero, vvar_2, vzero_2, vknd_2, vsn_2, vvar_3, vzero_3, vknd_3, vsn_3, vvar_4, vzero_4, vknd_4, vsn_4, vvar_29, vzero_29, vbld_29, vpts_29, vfld_29_0, vfld_29_1]) )
  all_goals refine ⟨_, _, FinOk.drop hB (Pl.ids (by (repeat' (first | exact Pl.v _ | exact Pl.junk | exact Pl.rd rfl _ | exact pl_nil | refine pl_cons ?_ ?_ | refine Pl.agg ?_ | refine Pl.tup ?_ | refine Pl.rp ?_ | refine Pl.fn ?_)); (first | done | fail))), ?_, rfl⟩
  all_goals simp [stepTo, *]
end Go.Proofs.Ytlfhhgfhoddgpaa
end
section
set_option linter.unusedSimpArgs false
set_option linter.unusedVariables false
namespace Go.Proofs.Ytlfhhgfhoddgpaa
open Go.Eng
/-- A way leads there. -/
inductive Reach (m : Mz) (f : Pt) : Pt → Prop where
  | here : Reach m f f
  | step {p : Pt} (h : Reach m f p) (k : Nat) (hk : k < 4) (ho : OpenAt m (stepTo p (k : Int))) : Reach m f (stepTo p (k : Int))
/-- What is known in the midst of a search: which cells are seen, and which of them are still to be looked at. -/
structure Rch (m : Mz) (f : Pt) (S : Pt → Prop) (todo : List Pt) : Prop where
  first : S f
  real : ∀ q, S q → Reach m f q
  opn : ∀ q, S q → OpenAt m q
  sub : ∀ q ∈ todo, S q
  done : ∀ q, S q → ¬ q ∈ todo → ∀ k : Nat, k < 4 → OpenAt m (stepTo q (k : Int)) → S (stepTo q (k : Int))
theorem Rch.add {m : Mz} {f : Pt} {S : Pt → Prop} {todo : List Pt} (h : Rch m f S todo) {t : Pt} (ht : t ∈ todo) {k : Nat} (hk : k < 4) (ho : OpenAt m (stepTo t (k : Int))) : Rch m f (fun q => S q ∨ q = stepTo t (k : Int)) (todo ++ [stepTo t (k : Int)]) := by
  refine ⟨.inl h.first, fun q hq => ?_, fun q hq => ?_, fun q hq => ?_, fun q hq hn j hj hoj => ?_⟩
  · rcases hq with hq | rfl
    · exact h.real q hq
    · exact .step (h.real t (h.sub t ht)) k hk ho
  · rcases hq with hq | rfl
    · exact h.opn q hq
    · exact ho
  · rcases List.mem_append.1 hq with hq | hq
    · exact .inl (h.sub q hq)
    · exact .inr (List.mem_singleton.1 hq)
  · rcases hq with hq | rfl
    · exact .inl (h.done q hq (fun g => hn (List.mem_append_left _ g)) j hj hoj)
    · exact absurd (by simp) hn
theorem Rch.all {m : Mz} {f : Pt} {S : Pt → Prop} (h : Rch m f S []) (q : Pt) : S q ↔ Reach m f q := by
  refine ⟨h.real q, fun hr => ?_⟩
  induction hr with
  | here => exact h.first
  | step _ k hk ho ih => exact h.done _ ih (by simp) k hk ho
theorem Rch.congr {m : Mz} {f : Pt} {S S' : Pt → Prop} {todo : List Pt} (h : Rch m f S todo) (e : ∀ q, S q ↔ S' q) : Rch m f S' todo := by
  have : S = S' := funext fun q => propext (e q)
  rw [← this]; exact h
/-! ### Points in a maze are few -/
def allPts : List Pt := (List.range 12).flatMap fun x : Nat => (List.range 12).map fun y : Nat => ((x : Int), (y : Int))
theorem mem_allPts {p : Pt} : p ∈ allPts ↔ (0 ≤ p.1 ∧ p.1 ≤ 11) ∧ 0 ≤ p.2 ∧ p.2 ≤ 11 := by
  obtain ⟨a, b⟩ := p
  unfold allPts
  simp only [List.mem_flatMap, List.mem_map, List.mem_range, Prod.mk.injEq]
  constructor
  · rintro ⟨x, hx, y, hy, e1, e2⟩
    omega
  · rintro ⟨⟨h1, h2⟩, h3, h4⟩
    exact ⟨a.toNat, by omega, b.toNat, by omega, by omega, by omega⟩
theorem allPts_len : allPts.length = 144 := by rfl
theorem nodup_leP {l : List Pt} (hn : l.Nodup) : ∀ {M : List Pt}, (∀ x ∈ l, x ∈ M) → l.length ≤ M.length := by
  induction l with
  | nil => intro M _; simp
  | cons a r ih =>
    intro M h
    rw [List.nodup_cons] at hn
    have ha := h a (by simp)
    have := ih hn.2 (M := M.erase a) (fun x hx => by
      have hxa : x ≠ a := fun e => hn.1 (e ▸ hx)
      exact (List.mem_erase_of_ne hxa).2 (h x (List.mem_cons_of_mem _ hx)))
    rw [List.length_erase_of_mem ha] at this
    have hM : 0 < M.length := List.length_pos_of_mem ha
    simp only [List.length_cons]; omega
theorem InMz.all {m : Mz} (hm : MzOk m) {p : Pt} (h : InMz m p) : p ∈ allPts := by
  obtain ⟨⟨a, b⟩, ⟨c, d⟩, _⟩ := hm
  obtain ⟨⟨e1, e2⟩, e3, e4⟩ := h
  exact mem_allPts.2 (by omega)
theorem pts_le {m : Mz} (hm : MzOk m) {l : List Pt} (hn : l.Nodup) (h : ∀ q ∈ l, InMz m q) : l.length ≤ 144 := by
  have := nodup_leP hn (M := allPts) (fun q hq => (h q hq).all hm)
  rw [allPts_len] at this; exact this
/-! ### The sorted list of a set of points -/
def ltP (p q : Pt) : Prop := p.1 < q.1 ∨ (p.1 = q.1 ∧ p.2 < q.2)
instance (p q : Pt) : Decidable (ltP p q) := by unfold ltP; exact inferInstance
theorem ltP.trans {a b c : Pt} (h : ltP a b) (k : ltP b c) : ltP a c := by unfold ltP at *; omega
theorem ltP.irrefl (a : Pt) : ¬ ltP a a := by unfold ltP; omega
/-- The points with a property, by columns. -/
noncomputable def ptsTo (S : Pt → Prop) (h : Nat) (x y : Nat) : List Pt := ((List.range x).flatMap fun a : Nat => ((List.range h).filter fun b : Nat => @decide (S ((a : Int), (b : Int))) (Classical.propDecidable _)).map fun b : Nat => ((a : Int), (b : Int))) ++ ((List.range y).filter fun b : Nat => @decide (S ((x : Int), (b : Int))) (Classical.propDecidable _)).map fun b : Nat => ((x : Int), (b : Int))
theorem ptsTo_zero (S : Pt → Prop) (h : Nat) : ptsTo S h 0 0 = [] := rfl
theorem ptsTo_col (S : Pt → Prop) (h x : Nat) : ptsTo S h x h = ptsTo S h (x + 1) 0 := by
  unfold ptsTo
  rw [List.range_succ, List.flatMap_append]
  simp
theorem ptsTo_yes {S : Pt → Prop} {h x y : Nat} (hs : S ((x : Int), (y : Int))) : ptsTo S h x (y + 1) = ptsTo S h x y ++ [((x : Int), (y : Int))] := by
  unfold ptsTo
  rw [List.range_succ, List.filter_append, List.map_append, ← List.append_assoc]
  simp [hs]
theorem ptsTo_no {S : Pt → Prop} {h x y : Nat} (hs : ¬ S ((x : Int), (y : Int))) : ptsTo S h x (y + 1) = ptsTo S h x y := by
  unfold ptsTo
  rw [List.range_succ, List.filter_append, List.map_append]
  simp [hs]
theorem mem_ptsTo {S : Pt → Prop} {h w : Nat} {p : Pt} : p ∈ ptsTo S h w 0 ↔ (0 ≤ p.1 ∧ p.1 < w) ∧ (0 ≤ p.2 ∧ p.2 < h) ∧ S p := by
  obtain ⟨a, b⟩ := p
  unfold ptsTo
  simp only [List.range_zero, List.filter_nil, List.map_nil, List.append_nil, List.mem_flatMap, List.mem_map, List.mem_filter, List.mem_range, decide_eq_true_eq, Prod.mk.injEq]
  constructor
  · rintro ⟨x, hx, y, ⟨hy, hs⟩, rfl, rfl⟩
    exact ⟨by omega, by omega, hs⟩
  · rintro ⟨h1, h2, h3⟩
    refine ⟨a.toNat, by omega, b.toNat, ⟨by omega, ?_⟩, by omega, by omega⟩
    rwa [show ((a.toNat : Nat) : Int) = a by omega, show ((b.toNat : Nat) : Int) = b by omega]
theorem ptsTo_sorted (S : Pt → Prop) (h : Nat) : ∀ x, (ptsTo S h x 0).Pairwise ltP := by
  have cols : ∀ x y, (ptsTo S h x 0).Pairwise ltP → (ptsTo S h x y).Pairwise ltP ∧ ∀ p ∈ ptsTo S h x y, p.1 < x ∨ (p.1 = x ∧ p.2 < y) := by
    intro x y h0
    induction y with
    | zero => exact ⟨h0, fun p hp => .inl (mem_ptsTo.1 hp).1.2⟩
    | succ y ih =>
      obtain ⟨i1, i2⟩ := ih
      by_cases hs : S ((x : Int), (y : Int))
      · rw [ptsTo_yes hs]
        refine ⟨?_, fun p hp => ?_⟩
        · rw [List.pairwise_append]
          refine ⟨i1, by simp, fun a ha b hb => ?_⟩
          rw [List.mem_singleton.1 hb]
          have := i2 a ha
          unfold ltP; simp only; omega
        · rcases List.mem_append.1 hp with hp | hp
          · have := i2 p hp; omega
          · rw [List.mem_singleton.1 hp]; exact .inr ⟨rfl, by simp only; omega⟩
      · rw [ptsTo_no hs]
        exact ⟨i1, fun p hp => by have := i2 p hp; omega⟩
  intro x
  induction x with
  | zero => rw [ptsTo_zero]; exact List.Pairwise.nil
  | succ x ih => rw [← ptsTo_col]; exact (cols x h ih).1
end Go.Proofs.Ytlfhhgfhoddgpaa
end
section
set_option linter.unusedSimpArgs false
set_option linter.unusedVariables false
set_option maxHeartbeats 2000000
namespace Go.Proofs.Ytlfhhgfhoddgpaa
open Go.Eng
/-- A search stands here: the keys, the list, and where its rest begins. -/
structure RcOk (m : Mz) (f : Pt) (z : List Pt × List Pt × Nat × Nat) : Prop where
  rch : Rch m f (fun q => q ∈ z.1) (z.2.1.drop z.2.2.1)
  nd : z.1.Nodup
  mm : z.2.2.1 + z.2.2.2 = z.2.1.length
  lim : 2 * (144 - z.1.length) + z.2.2.2 ≤ 289
  all : z.2.1.length ≤ 300
structure RcIn (m : Mz) (f t : Pt) (M : Nat) (z : List Pt × List Pt × Nat × Nat) (i : Nat) : Prop extends RcOk m f z where
  pos : 0 < z.2.2.2
  hd : z.2.1.getD z.2.2.1 (0, 0) = t
  seen : ∀ k : Nat, k < i → OpenAt m (stepTo t (k : Int)) → stepTo t (k : Int) ∈ z.1
  mu : 2 * (144 - z.1.length) + z.2.2.2 ≤ M
theorem OpenAt.bnd {m : Mz} (hm : MzOk m) {p : Pt} (h : OpenAt m p) : (0 ≤ p.1 ∧ p.1 ≤ 11) ∧ 0 ≤ p.2 ∧ p.2 ≤ 11 := mem_allPts.1 (h.1.all hm)
end Go.Proofs.Ytlfhhgfhoddgpaa
end
section
set_option linter.unusedSimpArgs false
set_option linter.unusedVariables false
set_option maxHeartbeats 2000000
namespace Go.Proofs.Ytlfhhgfhoddgpaa
open Go.Eng
/-- The number of a cell. -/
def ixP (m : Mz) (p : Pt) : Int := p.2 * (width m : Int) + p.1
theorem ixP_bnd {m : Mz} {p : Pt} (h : InMz m p) : 0 ≤ ixP m p ∧ (ixP m p).toNat < m.length * width m := by
  obtain ⟨⟨a, b⟩, c, d⟩ := h
  unfold ixP
  have h1 : 0 ≤ p.2 * (width m : Int) := Int.mul_nonneg a (by omega)
  refine ⟨by omega, ?_⟩
  have h2 : p.2 * (width m : Int) ≤ ((m.length : Int) - 1) * (width m : Int) := Int.mul_le_mul_of_nonneg_right b (by omega)
  have h3 : ((m.length : Int) - 1) * (width m : Int) = (m.length : Int) * width m - width m := by rw [Int.sub_mul, Int.one_mul]
  have h4 : ((m.length * width m : Nat) : Int) = (m.length : Int) * width m := by simp
  omega
theorem ixP_inj {m : Mz} {p q : Pt} (hp : InMz m p) (hq : InMz m q) (h : ixP m p = ixP m q) : p = q := by
  obtain ⟨⟨a, b⟩, c, d⟩ := hp
  obtain ⟨⟨a', b'⟩, c', d'⟩ := hq
  unfold ixP at h
  have hw : 0 < (width m : Int) := by omega
  have e1 : (p.2 * (width m : Int) + p.1) / (width m : Int) = p.2 := by
    rw [Int.add_comm, Int.add_mul_ediv_right _ _ (by omega), Int.ediv_eq_zero_of_lt c (by omega), Int.zero_add]
  have e2 : (q.2 * (width m : Int) + q.1) / (width m : Int) = q.2 := by
    rw [Int.add_comm, Int.add_mul_ediv_right _ _ (by omega), Int.ediv_eq_zero_of_lt c' (by omega), Int.zero_add]
  have e3 : p.2 = q.2 := by rw [← e1, ← e2, h]
  have e4 : p.1 = q.1 := by rw [e3] at h; omega
  exact Prod.ext e4 e3
/-- Marked in a list of cells. -/
def Mk (m : Mz) (bs : List Bool) (q : Pt) : Prop := InMz m q ∧ bs.getD (ixP m q).toNat false = true
theorem Mk.set {m : Mz} {bs : List Bool} {p : Pt} (hl : bs.length = m.length * width m) (hp : InMz m p) (q : Pt) : Mk m (bs.set (ixP m p).toNat true) q ↔ Mk m bs q ∨ q = p := by
  have hb := ixP_bnd hp
  constructor
  · rintro ⟨h1, h2⟩
    by_cases e : q = p
    · exact .inr e
    · refine .inl ⟨h1, ?_⟩
      have hne : (ixP m p).toNat ≠ (ixP m q).toNat := fun h => e (ixP_inj h1 hp (by have := (ixP_bnd h1).1; omega))
      simp only [List.getD] at h2 ⊢
      rwa [List.getElem?_set_ne hne] at h2
  · rintro (⟨h1, h2⟩ | rfl)
    · refine ⟨h1, ?_⟩
      by_cases e : (ixP m p).toNat = (ixP m q).toNat
      · simp only [List.getD]; rw [e, List.getElem?_set_self (by omega)]; rfl
      · simp only [List.getD] at h2 ⊢; rwa [List.getElem?_set_ne e]
    · refine ⟨hp, ?_⟩
      simp only [List.getD]; rw [List.getElem?_set_self (by omega)]; rfl
theorem Mk.none {m : Mz} {n : Nat} {q : Pt} : ¬ Mk m (List.replicate n false) q := by
  rintro ⟨_, h⟩
  simp only [List.getD, List.getElem?_replicate] at h
  split at h <;> simp at h
/-- A search of the reference stands here: the marks, the list, and the place in it. -/
structure RsOk (m : Mz) (f : Pt) (z : List Bool × List Pt × Nat) : Prop where
  rch : Rch m f (fun q => Mk m z.1 q) (z.2.1.drop z.2.2)
  len : z.1.length = m.length * width m
  nd : z.2.1.Nodup
  sub : ∀ q ∈ z.2.1, Mk m z.1 q
  le : z.2.2 ≤ z.2.1.length
structure RsIn (m : Mz) (f t : Pt) (z : List Bool × List Pt × Nat) (i : Nat) : Prop extends RsOk m f z where
  pos : z.2.2 < z.2.1.length
  hd : z.2.1.getD z.2.2 (0, 0) = t
  seen : ∀ k : Nat, k < i → OpenAt m (stepTo t (k : Int)) → Mk m z.1 (stepTo t (k : Int))
end Go.Proofs.Ytlfhhgfhoddgpaa
end
