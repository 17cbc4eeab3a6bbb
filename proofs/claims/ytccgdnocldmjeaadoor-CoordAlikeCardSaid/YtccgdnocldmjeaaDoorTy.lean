/- The facts on the types of this seat's program, each shown by the kernel. Written by gen_ty.py. -/
import Derived.Test.YtccgdnocldmjeaaDoorProg
import Derived.Test.YtccgdnocldmjeaaDoorK
import Derived.KernelRfl
namespace Go.Proofs.YtccgdnocldmjeaaDoor
open Go
-- 1: func()
instance : SZ Tryd.prog 1 1 := ⟨by kernel_rfl⟩
instance : BY Tryd.prog 1 8 := ⟨by kernel_rfl⟩
instance : AG Tryd.prog 1 false := ⟨by kernel_rfl⟩
instance : ZV Tryd.prog 1 ([.nilFunc]) := ⟨by kernel_rfl⟩
-- 2: int64
instance : SZ Tryd.prog 2 1 := ⟨by kernel_rfl⟩
instance : BY Tryd.prog 2 8 := ⟨by kernel_rfl⟩
instance : AG Tryd.prog 2 false := ⟨by kernel_rfl⟩
instance : IK Tryd.prog 2 .i64 := ⟨by kernel_rfl⟩
instance : ZZ Tryd.prog 2 (.int .i64 0) := ⟨by kernel_rfl⟩
instance : ZV Tryd.prog 2 ([.int .i64 0]) := ⟨by kernel_rfl⟩
-- 3: int
instance : SZ Tryd.prog 3 1 := ⟨by kernel_rfl⟩
instance : BY Tryd.prog 3 8 := ⟨by kernel_rfl⟩
instance : AG Tryd.prog 3 false := ⟨by kernel_rfl⟩
instance : IK Tryd.prog 3 .i64 := ⟨by kernel_rfl⟩
instance : ZZ Tryd.prog 3 (.int .i64 0) := ⟨by kernel_rfl⟩
instance : ZV Tryd.prog 3 ([.int .i64 0]) := ⟨by kernel_rfl⟩
-- 4: bool
instance : SZ Tryd.prog 4 1 := ⟨by kernel_rfl⟩
instance : BY Tryd.prog 4 1 := ⟨by kernel_rfl⟩
instance : AG Tryd.prog 4 false := ⟨by kernel_rfl⟩
instance : BL Tryd.prog 4 := ⟨by kernel_rfl⟩
instance : ZZ Tryd.prog 4 (.bool false) := ⟨by kernel_rfl⟩
instance : ZV Tryd.prog 4 ([.bool false]) := ⟨by kernel_rfl⟩
-- 5: uint8
instance : SZ Tryd.prog 5 1 := ⟨by kernel_rfl⟩
instance : BY Tryd.prog 5 1 := ⟨by kernel_rfl⟩
instance : AG Tryd.prog 5 false := ⟨by kernel_rfl⟩
instance : IK Tryd.prog 5 .u8 := ⟨by kernel_rfl⟩
instance : ZZ Tryd.prog 5 (.int .u8 0) := ⟨by kernel_rfl⟩
instance : ZV Tryd.prog 5 ([.int .u8 0]) := ⟨by kernel_rfl⟩
-- 9: string
instance : SZ Tryd.prog 9 1 := ⟨by kernel_rfl⟩
instance : BY Tryd.prog 9 16 := ⟨by kernel_rfl⟩
instance : AG Tryd.prog 9 false := ⟨by kernel_rfl⟩
instance : NI Tryd.prog 9 := ⟨by kernel_rfl⟩
instance : ST Tryd.prog 9 := ⟨by kernel_rfl⟩
instance : ZZ Tryd.prog 9 (.string (ByteArray.mk #[])) := ⟨by kernel_rfl⟩
instance : ZV Tryd.prog 9 ([.string (ByteArray.mk #[])]) := ⟨by kernel_rfl⟩
-- 12: uintptr
instance : SZ Tryd.prog 12 1 := ⟨by kernel_rfl⟩
instance : BY Tryd.prog 12 8 := ⟨by kernel_rfl⟩
instance : AG Tryd.prog 12 false := ⟨by kernel_rfl⟩
instance : IK Tryd.prog 12 .u64 := ⟨by kernel_rfl⟩
instance : ZZ Tryd.prog 12 (.int .u64 0) := ⟨by kernel_rfl⟩
instance : ZV Tryd.prog 12 ([.int .u64 0]) := ⟨by kernel_rfl⟩
-- 13: struct { msg string; addr uintptr }
instance : SZ Tryd.prog 13 2 := ⟨by kernel_rfl⟩
instance : BY Tryd.prog 13 24 := ⟨by kernel_rfl⟩
instance : AG Tryd.prog 13 true := ⟨by kernel_rfl⟩
instance : FS Tryd.prog 13 := ⟨by kernel_rfl⟩
instance : FT Tryd.prog 13 0 9 := ⟨by kernel_rfl⟩
instance : FO Tryd.prog 13 0 0 1 := ⟨by kernel_rfl, rfl⟩
instance : FT Tryd.prog 13 1 12 := ⟨by kernel_rfl⟩
instance : FO Tryd.prog 13 1 1 1 := ⟨by kernel_rfl, rfl⟩
instance : ZZ Tryd.prog 13 (.agg [.string (ByteArray.mk #[]), .int .u64 0].toArray) := ⟨by kernel_rfl⟩
instance : ZV Tryd.prog 13 ([.string (ByteArray.mk #[]), .int .u64 0]) := ⟨by kernel_rfl⟩
-- 20: interface {}
instance : SZ Tryd.prog 20 1 := ⟨by kernel_rfl⟩
instance : BY Tryd.prog 20 16 := ⟨by kernel_rfl⟩
instance : AG Tryd.prog 20 false := ⟨by kernel_rfl⟩
instance : ZV Tryd.prog 20 ([.nilIface]) := ⟨by kernel_rfl⟩
-- 21: int32
instance : SZ Tryd.prog 21 1 := ⟨by kernel_rfl⟩
instance : BY Tryd.prog 21 4 := ⟨by kernel_rfl⟩
instance : AG Tryd.prog 21 false := ⟨by kernel_rfl⟩
instance : IK Tryd.prog 21 .i32 := ⟨by kernel_rfl⟩
instance : ZZ Tryd.prog 21 (.int .i32 0) := ⟨by kernel_rfl⟩
instance : ZV Tryd.prog 21 ([.int .i32 0]) := ⟨by kernel_rfl⟩
-- 22: []api.Op
instance : SZ Tryd.prog 22 1 := ⟨by kernel_rfl⟩
instance : BY Tryd.prog 22 24 := ⟨by kernel_rfl⟩
instance : AG Tryd.prog 22 false := ⟨by kernel_rfl⟩
instance : EL Tryd.prog 22 27 := ⟨by kernel_rfl⟩
instance : NI Tryd.prog 22 := ⟨by kernel_rfl⟩
instance : ZZ Tryd.prog 22 (.slice none 0 0) := ⟨by kernel_rfl⟩
instance : ZV Tryd.prog 22 ([.slice none 0 0]) := ⟨by kernel_rfl⟩
-- 23: func([]api.Op) bool
instance : SZ Tryd.prog 23 1 := ⟨by kernel_rfl⟩
instance : BY Tryd.prog 23 8 := ⟨by kernel_rfl⟩
instance : AG Tryd.prog 23 false := ⟨by kernel_rfl⟩
instance : ZV Tryd.prog 23 ([.nilFunc]) := ⟨by kernel_rfl⟩
-- 24: *coord.Coord
instance : SZ Tryd.prog 24 1 := ⟨by kernel_rfl⟩
instance : BY Tryd.prog 24 8 := ⟨by kernel_rfl⟩
instance : AG Tryd.prog 24 false := ⟨by kernel_rfl⟩
instance : PT Tryd.prog 24 64 := ⟨by kernel_rfl⟩
instance : ZZ Tryd.prog 24 (.pointer none) := ⟨by kernel_rfl⟩
instance : ZV Tryd.prog 24 ([.pointer none]) := ⟨by kernel_rfl⟩
-- 25: func() *coord.Coord
instance : SZ Tryd.prog 25 1 := ⟨by kernel_rfl⟩
instance : BY Tryd.prog 25 8 := ⟨by kernel_rfl⟩
instance : AG Tryd.prog 25 false := ⟨by kernel_rfl⟩
instance : ZV Tryd.prog 25 ([.nilFunc]) := ⟨by kernel_rfl⟩
-- 26: struct { Kind int; Client int; Seq int; Name string; Produce
instance : SZ Tryd.prog 26 9 := ⟨by kernel_rfl⟩
instance : BY Tryd.prog 26 80 := ⟨by kernel_rfl⟩
instance : AG Tryd.prog 26 true := ⟨by kernel_rfl⟩
instance : FS Tryd.prog 26 := ⟨by kernel_rfl⟩
instance : FT Tryd.prog 26 0 3 := ⟨by kernel_rfl⟩
instance : FO Tryd.prog 26 0 0 1 := ⟨by kernel_rfl, rfl⟩
instance : FT Tryd.prog 26 1 3 := ⟨by kernel_rfl⟩
instance : FO Tryd.prog 26 1 1 1 := ⟨by kernel_rfl, rfl⟩
instance : FT Tryd.prog 26 2 3 := ⟨by kernel_rfl⟩
instance : FO Tryd.prog 26 2 2 1 := ⟨by kernel_rfl, rfl⟩
instance : FT Tryd.prog 26 3 9 := ⟨by kernel_rfl⟩
instance : FO Tryd.prog 26 3 3 1 := ⟨by kernel_rfl, rfl⟩
instance : FT Tryd.prog 26 4 3 := ⟨by kernel_rfl⟩
instance : FO Tryd.prog 26 4 4 1 := ⟨by kernel_rfl, rfl⟩
instance : FT Tryd.prog 26 5 3 := ⟨by kernel_rfl⟩
instance : FO Tryd.prog 26 5 5 1 := ⟨by kernel_rfl, rfl⟩
instance : FT Tryd.prog 26 6 3 := ⟨by kernel_rfl⟩
instance : FO Tryd.prog 26 6 6 1 := ⟨by kernel_rfl, rfl⟩
instance : FT Tryd.prog 26 7 3 := ⟨by kernel_rfl⟩
instance : FO Tryd.prog 26 7 7 1 := ⟨by kernel_rfl, rfl⟩
instance : FT Tryd.prog 26 8 4 := ⟨by kernel_rfl⟩
instance : FO Tryd.prog 26 8 8 1 := ⟨by kernel_rfl, rfl⟩
instance : ZZ Tryd.prog 26 (.agg [.int .i64 0, .int .i64 0, .int .i64 0, .string (ByteArray.mk #[]), .int .i64 0, .int .i64 0, .int .i64 0, .int .i64 0, .bool false].toArray) := ⟨by kernel_rfl⟩
instance : ZV Tryd.prog 26 ([.int .i64 0, .int .i64 0, .int .i64 0, .string (ByteArray.mk #[]), .int .i64 0, .int .i64 0, .int .i64 0, .int .i64 0, .bool false]) := ⟨by kernel_rfl⟩
-- 27: api.Op
instance : SZ Tryd.prog 27 9 := ⟨by kernel_rfl⟩
instance : BY Tryd.prog 27 80 := ⟨by kernel_rfl⟩
instance : AG Tryd.prog 27 true := ⟨by kernel_rfl⟩
instance : FS Tryd.prog 27 := ⟨by kernel_rfl⟩
instance : FT Tryd.prog 27 0 3 := ⟨by kernel_rfl⟩
instance : FO Tryd.prog 27 0 0 1 := ⟨by kernel_rfl, rfl⟩
instance : FT Tryd.prog 27 1 3 := ⟨by kernel_rfl⟩
instance : FO Tryd.prog 27 1 1 1 := ⟨by kernel_rfl, rfl⟩
instance : FT Tryd.prog 27 2 3 := ⟨by kernel_rfl⟩
instance : FO Tryd.prog 27 2 2 1 := ⟨by kernel_rfl, rfl⟩
instance : FT Tryd.prog 27 3 9 := ⟨by kernel_rfl⟩
instance : FO Tryd.prog 27 3 3 1 := ⟨by kernel_rfl, rfl⟩
instance : FT Tryd.prog 27 4 3 := ⟨by kernel_rfl⟩
instance : FO Tryd.prog 27 4 4 1 := ⟨by kernel_rfl, rfl⟩
instance : FT Tryd.prog 27 5 3 := ⟨by kernel_rfl⟩
instance : FO Tryd.prog 27 5 5 1 := ⟨by kernel_rfl, rfl⟩
instance : FT Tryd.prog 27 6 3 := ⟨by kernel_rfl⟩
instance : FO Tryd.prog 27 6 6 1 := ⟨by kernel_rfl, rfl⟩
instance : FT Tryd.prog 27 7 3 := ⟨by kernel_rfl⟩
instance : FO Tryd.prog 27 7 7 1 := ⟨by kernel_rfl, rfl⟩
instance : FT Tryd.prog 27 8 4 := ⟨by kernel_rfl⟩
instance : FO Tryd.prog 27 8 8 1 := ⟨by kernel_rfl, rfl⟩
instance : ZZ Tryd.prog 27 (.agg [.int .i64 0, .int .i64 0, .int .i64 0, .string (ByteArray.mk #[]), .int .i64 0, .int .i64 0, .int .i64 0, .int .i64 0, .bool false].toArray) := ⟨by kernel_rfl⟩
instance : ZV Tryd.prog 27 ([.int .i64 0, .int .i64 0, .int .i64 0, .string (ByteArray.mk #[]), .int .i64 0, .int .i64 0, .int .i64 0, .int .i64 0, .bool false]) := ⟨by kernel_rfl⟩
-- 28: api.Errno
instance : SZ Tryd.prog 28 1 := ⟨by kernel_rfl⟩
instance : BY Tryd.prog 28 8 := ⟨by kernel_rfl⟩
instance : AG Tryd.prog 28 false := ⟨by kernel_rfl⟩
instance : IK Tryd.prog 28 .i64 := ⟨by kernel_rfl⟩
instance : ZZ Tryd.prog 28 (.int .i64 0) := ⟨by kernel_rfl⟩
instance : ZV Tryd.prog 28 ([.int .i64 0]) := ⟨by kernel_rfl⟩
-- 29: struct { Err api.Errno; Producer int; Epoch int }
instance : SZ Tryd.prog 29 3 := ⟨by kernel_rfl⟩
instance : BY Tryd.prog 29 24 := ⟨by kernel_rfl⟩
instance : AG Tryd.prog 29 true := ⟨by kernel_rfl⟩
instance : FS Tryd.prog 29 := ⟨by kernel_rfl⟩
instance : FT Tryd.prog 29 0 28 := ⟨by kernel_rfl⟩
instance : FO Tryd.prog 29 0 0 1 := ⟨by kernel_rfl, rfl⟩
instance : FT Tryd.prog 29 1 3 := ⟨by kernel_rfl⟩
instance : FO Tryd.prog 29 1 1 1 := ⟨by kernel_rfl, rfl⟩
instance : FT Tryd.prog 29 2 3 := ⟨by kernel_rfl⟩
instance : FO Tryd.prog 29 2 2 1 := ⟨by kernel_rfl, rfl⟩
instance : ZZ Tryd.prog 29 (.agg [.int .i64 0, .int .i64 0, .int .i64 0].toArray) := ⟨by kernel_rfl⟩
instance : ZV Tryd.prog 29 ([.int .i64 0, .int .i64 0, .int .i64 0]) := ⟨by kernel_rfl⟩
-- 30: api.Reply
instance : SZ Tryd.prog 30 3 := ⟨by kernel_rfl⟩
instance : BY Tryd.prog 30 24 := ⟨by kernel_rfl⟩
instance : AG Tryd.prog 30 true := ⟨by kernel_rfl⟩
instance : FS Tryd.prog 30 := ⟨by kernel_rfl⟩
instance : FT Tryd.prog 30 0 28 := ⟨by kernel_rfl⟩
instance : FO Tryd.prog 30 0 0 1 := ⟨by kernel_rfl, rfl⟩
instance : FT Tryd.prog 30 1 3 := ⟨by kernel_rfl⟩
instance : FO Tryd.prog 30 1 1 1 := ⟨by kernel_rfl, rfl⟩
instance : FT Tryd.prog 30 2 3 := ⟨by kernel_rfl⟩
instance : FO Tryd.prog 30 2 2 1 := ⟨by kernel_rfl, rfl⟩
instance : ZZ Tryd.prog 30 (.agg [.int .i64 0, .int .i64 0, .int .i64 0].toArray) := ⟨by kernel_rfl⟩
instance : ZV Tryd.prog 30 ([.int .i64 0, .int .i64 0, .int .i64 0]) := ⟨by kernel_rfl⟩
-- 31: []api.Mark
instance : SZ Tryd.prog 31 1 := ⟨by kernel_rfl⟩
instance : BY Tryd.prog 31 24 := ⟨by kernel_rfl⟩
instance : AG Tryd.prog 31 false := ⟨by kernel_rfl⟩
instance : EL Tryd.prog 31 36 := ⟨by kernel_rfl⟩
instance : NI Tryd.prog 31 := ⟨by kernel_rfl⟩
instance : ZZ Tryd.prog 31 (.slice none 0 0) := ⟨by kernel_rfl⟩
instance : ZV Tryd.prog 31 ([.slice none 0 0]) := ⟨by kernel_rfl⟩
-- 33: func(api.Op) (api.Reply, []api.Mark)
instance : SZ Tryd.prog 33 1 := ⟨by kernel_rfl⟩
instance : BY Tryd.prog 33 8 := ⟨by kernel_rfl⟩
instance : AG Tryd.prog 33 false := ⟨by kernel_rfl⟩
instance : ZV Tryd.prog 33 ([.nilFunc]) := ⟨by kernel_rfl⟩
-- 34: func() bool
instance : SZ Tryd.prog 34 1 := ⟨by kernel_rfl⟩
instance : BY Tryd.prog 34 8 := ⟨by kernel_rfl⟩
instance : AG Tryd.prog 34 false := ⟨by kernel_rfl⟩
instance : ZV Tryd.prog 34 ([.nilFunc]) := ⟨by kernel_rfl⟩
-- 35: struct { Kind int; Producer int; Epoch int; Txn int }
instance : SZ Tryd.prog 35 4 := ⟨by kernel_rfl⟩
instance : BY Tryd.prog 35 32 := ⟨by kernel_rfl⟩
instance : AG Tryd.prog 35 true := ⟨by kernel_rfl⟩
instance : FS Tryd.prog 35 := ⟨by kernel_rfl⟩
instance : FT Tryd.prog 35 0 3 := ⟨by kernel_rfl⟩
instance : FO Tryd.prog 35 0 0 1 := ⟨by kernel_rfl, rfl⟩
instance : FT Tryd.prog 35 1 3 := ⟨by kernel_rfl⟩
instance : FO Tryd.prog 35 1 1 1 := ⟨by kernel_rfl, rfl⟩
instance : FT Tryd.prog 35 2 3 := ⟨by kernel_rfl⟩
instance : FO Tryd.prog 35 2 2 1 := ⟨by kernel_rfl, rfl⟩
instance : FT Tryd.prog 35 3 3 := ⟨by kernel_rfl⟩
instance : FO Tryd.prog 35 3 3 1 := ⟨by kernel_rfl, rfl⟩
instance : ZZ Tryd.prog 35 (.agg [.int .i64 0, .int .i64 0, .int .i64 0, .int .i64 0].toArray) := ⟨by kernel_rfl⟩
instance : ZV Tryd.prog 35 ([.int .i64 0, .int .i64 0, .int .i64 0, .int .i64 0]) := ⟨by kernel_rfl⟩
-- 36: api.Mark
instance : SZ Tryd.prog 36 4 := ⟨by kernel_rfl⟩
instance : BY Tryd.prog 36 32 := ⟨by kernel_rfl⟩
instance : AG Tryd.prog 36 true := ⟨by kernel_rfl⟩
instance : FS Tryd.prog 36 := ⟨by kernel_rfl⟩
instance : FT Tryd.prog 36 0 3 := ⟨by kernel_rfl⟩
instance : FO Tryd.prog 36 0 0 1 := ⟨by kernel_rfl, rfl⟩
instance : FT Tryd.prog 36 1 3 := ⟨by kernel_rfl⟩
instance : FO Tryd.prog 36 1 1 1 := ⟨by kernel_rfl, rfl⟩
instance : FT Tryd.prog 36 2 3 := ⟨by kernel_rfl⟩
instance : FO Tryd.prog 36 2 2 1 := ⟨by kernel_rfl, rfl⟩
instance : FT Tryd.prog 36 3 3 := ⟨by kernel_rfl⟩
instance : FO Tryd.prog 36 3 3 1 := ⟨by kernel_rfl, rfl⟩
instance : ZZ Tryd.prog 36 (.agg [.int .i64 0, .int .i64 0, .int .i64 0, .int .i64 0].toArray) := ⟨by kernel_rfl⟩
instance : ZV Tryd.prog 36 ([.int .i64 0, .int .i64 0, .int .i64 0, .int .i64 0]) := ⟨by kernel_rfl⟩
-- 37: func([]api.Op, int, bool) bool
instance : SZ Tryd.prog 37 1 := ⟨by kernel_rfl⟩
instance : BY Tryd.prog 37 8 := ⟨by kernel_rfl⟩
instance : AG Tryd.prog 37 false := ⟨by kernel_rfl⟩
instance : ZV Tryd.prog 37 ([.nilFunc]) := ⟨by kernel_rfl⟩
-- 38: []uint8
instance : SZ Tryd.prog 38 1 := ⟨by kernel_rfl⟩
instance : BY Tryd.prog 38 24 := ⟨by kernel_rfl⟩
instance : AG Tryd.prog 38 false := ⟨by kernel_rfl⟩
instance : EL Tryd.prog 38 5 := ⟨by kernel_rfl⟩
instance : NI Tryd.prog 38 := ⟨by kernel_rfl⟩
instance : ZZ Tryd.prog 38 (.slice none 0 0) := ⟨by kernel_rfl⟩
instance : ZV Tryd.prog 38 ([.slice none 0 0]) := ⟨by kernel_rfl⟩
-- 39: func() []api.Mark
instance : SZ Tryd.prog 39 1 := ⟨by kernel_rfl⟩
instance : BY Tryd.prog 39 8 := ⟨by kernel_rfl⟩
instance : AG Tryd.prog 39 false := ⟨by kernel_rfl⟩
instance : ZV Tryd.prog 39 ([.nilFunc]) := ⟨by kernel_rfl⟩
-- 40: func(int, int) bool
instance : SZ Tryd.prog 40 1 := ⟨by kernel_rfl⟩
instance : BY Tryd.prog 40 8 := ⟨by kernel_rfl⟩
instance : AG Tryd.prog 40 false := ⟨by kernel_rfl⟩
instance : ZV Tryd.prog 40 ([.nilFunc]) := ⟨by kernel_rfl⟩
-- 41: []int
instance : SZ Tryd.prog 41 1 := ⟨by kernel_rfl⟩
instance : BY Tryd.prog 41 24 := ⟨by kernel_rfl⟩
instance : AG Tryd.prog 41 false := ⟨by kernel_rfl⟩
instance : EL Tryd.prog 41 3 := ⟨by kernel_rfl⟩
instance : NI Tryd.prog 41 := ⟨by kernel_rfl⟩
instance : ZZ Tryd.prog 41 (.slice none 0 0) := ⟨by kernel_rfl⟩
instance : ZV Tryd.prog 41 ([.slice none 0 0]) := ⟨by kernel_rfl⟩
-- 43: func(int) (int, []int, bool)
instance : SZ Tryd.prog 43 1 := ⟨by kernel_rfl⟩
instance : BY Tryd.prog 43 8 := ⟨by kernel_rfl⟩
instance : AG Tryd.prog 43 false := ⟨by kernel_rfl⟩
instance : ZV Tryd.prog 43 ([.nilFunc]) := ⟨by kernel_rfl⟩
-- 44: func() int
instance : SZ Tryd.prog 44 1 := ⟨by kernel_rfl⟩
instance : BY Tryd.prog 44 8 := ⟨by kernel_rfl⟩
instance : AG Tryd.prog 44 false := ⟨by kernel_rfl⟩
instance : ZV Tryd.prog 44 ([.nilFunc]) := ⟨by kernel_rfl⟩
-- 45: func(int, bool) bool
instance : SZ Tryd.prog 45 1 := ⟨by kernel_rfl⟩
instance : BY Tryd.prog 45 8 := ⟨by kernel_rfl⟩
instance : AG Tryd.prog 45 false := ⟨by kernel_rfl⟩
instance : ZV Tryd.prog 45 ([.nilFunc]) := ⟨by kernel_rfl⟩
-- 46: [4]bool
instance : SZ Tryd.prog 46 4 := ⟨by kernel_rfl⟩
instance : BY Tryd.prog 46 4 := ⟨by kernel_rfl⟩
instance : AG Tryd.prog 46 true := ⟨by kernel_rfl⟩
instance : AR Tryd.prog 46 4 4 := ⟨by kernel_rfl⟩
instance : ZV Tryd.prog 46 ([.bool false, .bool false, .bool false, .bool false]) := ⟨by kernel_rfl⟩
-- 47: func(*coord.Coord, int, int, bool) api.Errno
instance : SZ Tryd.prog 47 1 := ⟨by kernel_rfl⟩
instance : BY Tryd.prog 47 8 := ⟨by kernel_rfl⟩
instance : AG Tryd.prog 47 false := ⟨by kernel_rfl⟩
instance : ZV Tryd.prog 47 ([.nilFunc]) := ⟨by kernel_rfl⟩
-- 48: func(bool, []int) bool
instance : SZ Tryd.prog 48 1 := ⟨by kernel_rfl⟩
instance : BY Tryd.prog 48 8 := ⟨by kernel_rfl⟩
instance : AG Tryd.prog 48 false := ⟨by kernel_rfl⟩
instance : ZV Tryd.prog 48 ([.nilFunc]) := ⟨by kernel_rfl⟩
-- 50: func(int) (int, bool)
instance : SZ Tryd.prog 50 1 := ⟨by kernel_rfl⟩
instance : BY Tryd.prog 50 8 := ⟨by kernel_rfl⟩
instance : AG Tryd.prog 50 false := ⟨by kernel_rfl⟩
instance : ZV Tryd.prog 50 ([.nilFunc]) := ⟨by kernel_rfl⟩
-- 51: func(api.Op) bool
instance : SZ Tryd.prog 51 1 := ⟨by kernel_rfl⟩
instance : BY Tryd.prog 51 8 := ⟨by kernel_rfl⟩
instance : AG Tryd.prog 51 false := ⟨by kernel_rfl⟩
instance : ZV Tryd.prog 51 ([.nilFunc]) := ⟨by kernel_rfl⟩
-- 52: []api.Reply
instance : SZ Tryd.prog 52 1 := ⟨by kernel_rfl⟩
instance : BY Tryd.prog 52 24 := ⟨by kernel_rfl⟩
instance : AG Tryd.prog 52 false := ⟨by kernel_rfl⟩
instance : EL Tryd.prog 52 30 := ⟨by kernel_rfl⟩
instance : NI Tryd.prog 52 := ⟨by kernel_rfl⟩
instance : ZZ Tryd.prog 52 (.slice none 0 0) := ⟨by kernel_rfl⟩
instance : ZV Tryd.prog 52 ([.slice none 0 0]) := ⟨by kernel_rfl⟩
-- 53: [32]uint8
instance : SZ Tryd.prog 53 32 := ⟨by kernel_rfl⟩
instance : BY Tryd.prog 53 32 := ⟨by kernel_rfl⟩
instance : AG Tryd.prog 53 true := ⟨by kernel_rfl⟩
instance : AR Tryd.prog 53 32 5 := ⟨by kernel_rfl⟩
instance : ZV Tryd.prog 53 (List.replicate 32 (.int .u8 0)) := ⟨by kernel_rfl⟩
-- 54: api.Hash
instance : SZ Tryd.prog 54 32 := ⟨by kernel_rfl⟩
instance : BY Tryd.prog 54 32 := ⟨by kernel_rfl⟩
instance : AG Tryd.prog 54 true := ⟨by kernel_rfl⟩
instance : AR Tryd.prog 54 32 5 := ⟨by kernel_rfl⟩
instance : ZV Tryd.prog 54 (List.replicate 32 (.int .u8 0)) := ⟨by kernel_rfl⟩
-- 55: func() api.Hash
instance : SZ Tryd.prog 55 1 := ⟨by kernel_rfl⟩
instance : BY Tryd.prog 55 8 := ⟨by kernel_rfl⟩
instance : AG Tryd.prog 55 false := ⟨by kernel_rfl⟩
instance : ZV Tryd.prog 55 ([.nilFunc]) := ⟨by kernel_rfl⟩
-- 56: func([]api.Op, api.Op) bool
instance : SZ Tryd.prog 56 1 := ⟨by kernel_rfl⟩
instance : BY Tryd.prog 56 8 := ⟨by kernel_rfl⟩
instance : AG Tryd.prog 56 false := ⟨by kernel_rfl⟩
instance : ZV Tryd.prog 56 ([.nilFunc]) := ⟨by kernel_rfl⟩
-- 57: func([]api.Mark, []api.Mark) bool
instance : SZ Tryd.prog 57 1 := ⟨by kernel_rfl⟩
instance : BY Tryd.prog 57 8 := ⟨by kernel_rfl⟩
instance : AG Tryd.prog 57 false := ⟨by kernel_rfl⟩
instance : ZV Tryd.prog 57 ([.nilFunc]) := ⟨by kernel_rfl⟩
-- 58: *hold.Table[*seneschal/coord.producer]
instance : SZ Tryd.prog 58 1 := ⟨by kernel_rfl⟩
instance : BY Tryd.prog 58 8 := ⟨by kernel_rfl⟩
instance : AG Tryd.prog 58 false := ⟨by kernel_rfl⟩
instance : PT Tryd.prog 58 83 := ⟨by kernel_rfl⟩
instance : ZZ Tryd.prog 58 (.pointer none) := ⟨by kernel_rfl⟩
instance : ZV Tryd.prog 58 ([.pointer none]) := ⟨by kernel_rfl⟩
-- 59: func() *hold.Table[*seneschal/coord.producer]
instance : SZ Tryd.prog 59 1 := ⟨by kernel_rfl⟩
instance : BY Tryd.prog 59 8 := ⟨by kernel_rfl⟩
instance : AG Tryd.prog 59 false := ⟨by kernel_rfl⟩
instance : ZV Tryd.prog 59 ([.nilFunc]) := ⟨by kernel_rfl⟩
-- 60: *coord.producer
instance : SZ Tryd.prog 60 1 := ⟨by kernel_rfl⟩
instance : BY Tryd.prog 60 8 := ⟨by kernel_rfl⟩
instance : AG Tryd.prog 60 false := ⟨by kernel_rfl⟩
instance : PT Tryd.prog 60 74 := ⟨by kernel_rfl⟩
instance : ZZ Tryd.prog 60 (.pointer none) := ⟨by kernel_rfl⟩
instance : ZV Tryd.prog 60 ([.pointer none]) := ⟨by kernel_rfl⟩
-- 61: map[api.Mark]bool
instance : SZ Tryd.prog 61 1 := ⟨by kernel_rfl⟩
instance : BY Tryd.prog 61 8 := ⟨by kernel_rfl⟩
instance : AG Tryd.prog 61 false := ⟨by kernel_rfl⟩
instance : MP Tryd.prog 61 36 4 := ⟨by kernel_rfl⟩
instance : ZZ Tryd.prog 61 (.map none) := ⟨by kernel_rfl⟩
instance : ZV Tryd.prog 61 ([.map none]) := ⟨by kernel_rfl⟩
-- 62: map[coord.asked]api.Reply
instance : SZ Tryd.prog 62 1 := ⟨by kernel_rfl⟩
instance : BY Tryd.prog 62 8 := ⟨by kernel_rfl⟩
instance : AG Tryd.prog 62 false := ⟨by kernel_rfl⟩
instance : MP Tryd.prog 62 68 30 := ⟨by kernel_rfl⟩
instance : ZZ Tryd.prog 62 (.map none) := ⟨by kernel_rfl⟩
instance : ZV Tryd.prog 62 ([.map none]) := ⟨by kernel_rfl⟩
-- 63: struct { l *hold.Table[*seneschal/coord.producer]; marks []a
instance : SZ Tryd.prog 63 5 := ⟨by kernel_rfl⟩
instance : BY Tryd.prog 63 56 := ⟨by kernel_rfl⟩
instance : AG Tryd.prog 63 true := ⟨by kernel_rfl⟩
instance : FS Tryd.prog 63 := ⟨by kernel_rfl⟩
instance : FT Tryd.prog 63 0 58 := ⟨by kernel_rfl⟩
instance : FO Tryd.prog 63 0 0 1 := ⟨by kernel_rfl, rfl⟩
instance : FT Tryd.prog 63 1 31 := ⟨by kernel_rfl⟩
instance : FO Tryd.prog 63 1 1 1 := ⟨by kernel_rfl, rfl⟩
instance : FT Tryd.prog 63 2 61 := ⟨by kernel_rfl⟩
instance : FO Tryd.prog 63 2 2 1 := ⟨by kernel_rfl, rfl⟩
instance : FT Tryd.prog 63 3 62 := ⟨by kernel_rfl⟩
instance : FO Tryd.prog 63 3 3 1 := ⟨by kernel_rfl, rfl⟩
instance : FT Tryd.prog 63 4 3 := ⟨by kernel_rfl⟩
instance : FO Tryd.prog 63 4 4 1 := ⟨by kernel_rfl, rfl⟩
instance : ZZ Tryd.prog 63 (.agg [.pointer none, .slice none 0 0, .map none, .map none, .int .i64 0].toArray) := ⟨by kernel_rfl⟩
instance : ZV Tryd.prog 63 ([.pointer none, .slice none 0 0, .map none, .map none, .int .i64 0]) := ⟨by kernel_rfl⟩
-- 64: coord.Coord
instance : SZ Tryd.prog 64 5 := ⟨by kernel_rfl⟩
instance : BY Tryd.prog 64 56 := ⟨by kernel_rfl⟩
instance : AG Tryd.prog 64 true := ⟨by kernel_rfl⟩
instance : FS Tryd.prog 64 := ⟨by kernel_rfl⟩
instance : FT Tryd.prog 64 0 58 := ⟨by kernel_rfl⟩
instance : FO Tryd.prog 64 0 0 1 := ⟨by kernel_rfl, rfl⟩
instance : FT Tryd.prog 64 1 31 := ⟨by kernel_rfl⟩
instance : FO Tryd.prog 64 1 1 1 := ⟨by kernel_rfl, rfl⟩
instance : FT Tryd.prog 64 2 61 := ⟨by kernel_rfl⟩
instance : FO Tryd.prog 64 2 2 1 := ⟨by kernel_rfl, rfl⟩
instance : FT Tryd.prog 64 3 62 := ⟨by kernel_rfl⟩
instance : FO Tryd.prog 64 3 3 1 := ⟨by kernel_rfl, rfl⟩
instance : FT Tryd.prog 64 4 3 := ⟨by kernel_rfl⟩
instance : FO Tryd.prog 64 4 4 1 := ⟨by kernel_rfl, rfl⟩
instance : ZZ Tryd.prog 64 (.agg [.pointer none, .slice none 0 0, .map none, .map none, .int .i64 0].toArray) := ⟨by kernel_rfl⟩
instance : ZV Tryd.prog 64 ([.pointer none, .slice none 0 0, .map none, .map none, .int .i64 0]) := ⟨by kernel_rfl⟩
-- 66: func(api.Op) ([]uint8, api.Errno)
instance : SZ Tryd.prog 66 1 := ⟨by kernel_rfl⟩
instance : BY Tryd.prog 66 8 := ⟨by kernel_rfl⟩
instance : AG Tryd.prog 66 false := ⟨by kernel_rfl⟩
instance : ZV Tryd.prog 66 ([.nilFunc]) := ⟨by kernel_rfl⟩
-- 67: struct { client int; seq int }
instance : SZ Tryd.prog 67 2 := ⟨by kernel_rfl⟩
instance : BY Tryd.prog 67 16 := ⟨by kernel_rfl⟩
instance : AG Tryd.prog 67 true := ⟨by kernel_rfl⟩
instance : FS Tryd.prog 67 := ⟨by kernel_rfl⟩
instance : FT Tryd.prog 67 0 3 := ⟨by kernel_rfl⟩
instance : FO Tryd.prog 67 0 0 1 := ⟨by kernel_rfl, rfl⟩
instance : FT Tryd.prog 67 1 3 := ⟨by kernel_rfl⟩
instance : FO Tryd.prog 67 1 1 1 := ⟨by kernel_rfl, rfl⟩
instance : ZZ Tryd.prog 67 (.agg [.int .i64 0, .int .i64 0].toArray) := ⟨by kernel_rfl⟩
instance : ZV Tryd.prog 67 ([.int .i64 0, .int .i64 0]) := ⟨by kernel_rfl⟩
-- 68: coord.asked
instance : SZ Tryd.prog 68 2 := ⟨by kernel_rfl⟩
instance : BY Tryd.prog 68 16 := ⟨by kernel_rfl⟩
instance : AG Tryd.prog 68 true := ⟨by kernel_rfl⟩
instance : FS Tryd.prog 68 := ⟨by kernel_rfl⟩
instance : FT Tryd.prog 68 0 3 := ⟨by kernel_rfl⟩
instance : FO Tryd.prog 68 0 0 1 := ⟨by kernel_rfl, rfl⟩
instance : FT Tryd.prog 68 1 3 := ⟨by kernel_rfl⟩
instance : FO Tryd.prog 68 1 1 1 := ⟨by kernel_rfl, rfl⟩
instance : ZZ Tryd.prog 68 (.agg [.int .i64 0, .int .i64 0].toArray) := ⟨by kernel_rfl⟩
instance : ZV Tryd.prog 68 ([.int .i64 0, .int .i64 0]) := ⟨by kernel_rfl⟩
-- 70: func([]api.Mark) []api.Mark
instance : SZ Tryd.prog 70 1 := ⟨by kernel_rfl⟩
instance : BY Tryd.prog 70 8 := ⟨by kernel_rfl⟩
instance : AG Tryd.prog 70 false := ⟨by kernel_rfl⟩
instance : ZV Tryd.prog 70 ([.nilFunc]) := ⟨by kernel_rfl⟩
-- 71: func(int) *coord.producer
instance : SZ Tryd.prog 71 1 := ⟨by kernel_rfl⟩
instance : BY Tryd.prog 71 8 := ⟨by kernel_rfl⟩
instance : AG Tryd.prog 71 false := ⟨by kernel_rfl⟩
instance : ZV Tryd.prog 71 ([.nilFunc]) := ⟨by kernel_rfl⟩
-- 72: map[int]bool
instance : SZ Tryd.prog 72 1 := ⟨by kernel_rfl⟩
instance : BY Tryd.prog 72 8 := ⟨by kernel_rfl⟩
instance : AG Tryd.prog 72 false := ⟨by kernel_rfl⟩
instance : MP Tryd.prog 72 3 4 := ⟨by kernel_rfl⟩
instance : ZZ Tryd.prog 72 (.map none) := ⟨by kernel_rfl⟩
instance : ZV Tryd.prog 72 ([.map none]) := ⟨by kernel_rfl⟩
-- 73: struct { name string; epoch int; last int; open bool; parts 
instance : SZ Tryd.prog 73 6 := ⟨by kernel_rfl⟩
instance : BY Tryd.prog 73 56 := ⟨by kernel_rfl⟩
instance : AG Tryd.prog 73 true := ⟨by kernel_rfl⟩
instance : FS Tryd.prog 73 := ⟨by kernel_rfl⟩
instance : FT Tryd.prog 73 0 9 := ⟨by kernel_rfl⟩
instance : FO Tryd.prog 73 0 0 1 := ⟨by kernel_rfl, rfl⟩
instance : FT Tryd.prog 73 1 3 := ⟨by kernel_rfl⟩
instance : FO Tryd.prog 73 1 1 1 := ⟨by kernel_rfl, rfl⟩
instance : FT Tryd.prog 73 2 3 := ⟨by kernel_rfl⟩
instance : FO Tryd.prog 73 2 2 1 := ⟨by kernel_rfl, rfl⟩
instance : FT Tryd.prog 73 3 4 := ⟨by kernel_rfl⟩
instance : FO Tryd.prog 73 3 3 1 := ⟨by kernel_rfl, rfl⟩
instance : FT Tryd.prog 73 4 72 := ⟨by kernel_rfl⟩
instance : FO Tryd.prog 73 4 4 1 := ⟨by kernel_rfl, rfl⟩
instance : FT Tryd.prog 73 5 3 := ⟨by kernel_rfl⟩
instance : FO Tryd.prog 73 5 5 1 := ⟨by kernel_rfl, rfl⟩
instance : ZZ Tryd.prog 73 (.agg [.string (ByteArray.mk #[]), .int .i64 0, .int .i64 0, .bool false, .map none, .int .i64 0].toArray) := ⟨by kernel_rfl⟩
instance : ZV Tryd.prog 73 ([.string (ByteArray.mk #[]), .int .i64 0, .int .i64 0, .bool false, .map none, .int .i64 0]) := ⟨by kernel_rfl⟩
-- 74: coord.producer
instance : SZ Tryd.prog 74 6 := ⟨by kernel_rfl⟩
instance : BY Tryd.prog 74 56 := ⟨by kernel_rfl⟩
instance : AG Tryd.prog 74 true := ⟨by kernel_rfl⟩
instance : FS Tryd.prog 74 := ⟨by kernel_rfl⟩
instance : FT Tryd.prog 74 0 9 := ⟨by kernel_rfl⟩
instance : FO Tryd.prog 74 0 0 1 := ⟨by kernel_rfl, rfl⟩
instance : FT Tryd.prog 74 1 3 := ⟨by kernel_rfl⟩
instance : FO Tryd.prog 74 1 1 1 := ⟨by kernel_rfl, rfl⟩
instance : FT Tryd.prog 74 2 3 := ⟨by kernel_rfl⟩
instance : FO Tryd.prog 74 2 2 1 := ⟨by kernel_rfl, rfl⟩
instance : FT Tryd.prog 74 3 4 := ⟨by kernel_rfl⟩
instance : FO Tryd.prog 74 3 3 1 := ⟨by kernel_rfl, rfl⟩
instance : FT Tryd.prog 74 4 72 := ⟨by kernel_rfl⟩
instance : FO Tryd.prog 74 4 4 1 := ⟨by kernel_rfl, rfl⟩
instance : FT Tryd.prog 74 5 3 := ⟨by kernel_rfl⟩
instance : FO Tryd.prog 74 5 5 1 := ⟨by kernel_rfl, rfl⟩
instance : ZZ Tryd.prog 74 (.agg [.string (ByteArray.mk #[]), .int .i64 0, .int .i64 0, .bool false, .map none, .int .i64 0].toArray) := ⟨by kernel_rfl⟩
instance : ZV Tryd.prog 74 ([.string (ByteArray.mk #[]), .int .i64 0, .int .i64 0, .bool false, .map none, .int .i64 0]) := ⟨by kernel_rfl⟩
-- 75: func(iter.Seq[int]) []int
instance : SZ Tryd.prog 75 1 := ⟨by kernel_rfl⟩
instance : BY Tryd.prog 75 8 := ⟨by kernel_rfl⟩
instance : AG Tryd.prog 75 false := ⟨by kernel_rfl⟩
instance : ZV Tryd.prog 75 ([.nilFunc]) := ⟨by kernel_rfl⟩
-- 76: func(func(int) bool)
instance : SZ Tryd.prog 76 1 := ⟨by kernel_rfl⟩
instance : BY Tryd.prog 76 8 := ⟨by kernel_rfl⟩
instance : AG Tryd.prog 76 false := ⟨by kernel_rfl⟩
instance : ZV Tryd.prog 76 ([.nilFunc]) := ⟨by kernel_rfl⟩
-- 77: iter.Seq[int]
instance : SZ Tryd.prog 77 1 := ⟨by kernel_rfl⟩
instance : BY Tryd.prog 77 8 := ⟨by kernel_rfl⟩
instance : AG Tryd.prog 77 false := ⟨by kernel_rfl⟩
instance : ZV Tryd.prog 77 ([.nilFunc]) := ⟨by kernel_rfl⟩
-- 78: func(map[int]bool) iter.Seq[int]
instance : SZ Tryd.prog 78 1 := ⟨by kernel_rfl⟩
instance : BY Tryd.prog 78 8 := ⟨by kernel_rfl⟩
instance : AG Tryd.prog 78 false := ⟨by kernel_rfl⟩
instance : ZV Tryd.prog 78 ([.nilFunc]) := ⟨by kernel_rfl⟩
-- 79: func(api.Mark) ([]uint8, api.Errno)
instance : SZ Tryd.prog 79 1 := ⟨by kernel_rfl⟩
instance : BY Tryd.prog 79 8 := ⟨by kernel_rfl⟩
instance : AG Tryd.prog 79 false := ⟨by kernel_rfl⟩
instance : ZV Tryd.prog 79 ([.nilFunc]) := ⟨by kernel_rfl⟩
-- 80: func([]uint8) api.Hash
instance : SZ Tryd.prog 80 1 := ⟨by kernel_rfl⟩
instance : BY Tryd.prog 80 8 := ⟨by kernel_rfl⟩
instance : AG Tryd.prog 80 false := ⟨by kernel_rfl⟩
instance : ZV Tryd.prog 80 ([.nilFunc]) := ⟨by kernel_rfl⟩
-- 81: map[int]*coord.producer
instance : SZ Tryd.prog 81 1 := ⟨by kernel_rfl⟩
instance : BY Tryd.prog 81 8 := ⟨by kernel_rfl⟩
instance : AG Tryd.prog 81 false := ⟨by kernel_rfl⟩
instance : MP Tryd.prog 81 3 60 := ⟨by kernel_rfl⟩
instance : ZZ Tryd.prog 81 (.map none) := ⟨by kernel_rfl⟩
instance : ZV Tryd.prog 81 ([.map none]) := ⟨by kernel_rfl⟩
-- 82: struct { m map[int]*coord.producer }
instance : SZ Tryd.prog 82 1 := ⟨by kernel_rfl⟩
instance : BY Tryd.prog 82 8 := ⟨by kernel_rfl⟩
instance : AG Tryd.prog 82 true := ⟨by kernel_rfl⟩
instance : FS Tryd.prog 82 := ⟨by kernel_rfl⟩
instance : FT Tryd.prog 82 0 81 := ⟨by kernel_rfl⟩
instance : FO Tryd.prog 82 0 0 1 := ⟨by kernel_rfl, rfl⟩
instance : ZZ Tryd.prog 82 (.agg [.map none].toArray) := ⟨by kernel_rfl⟩
instance : ZV Tryd.prog 82 ([.map none]) := ⟨by kernel_rfl⟩
-- 83: hold.Table[*seneschal/coord.producer]
instance : SZ Tryd.prog 83 1 := ⟨by kernel_rfl⟩
instance : BY Tryd.prog 83 8 := ⟨by kernel_rfl⟩
instance : AG Tryd.prog 83 true := ⟨by kernel_rfl⟩
instance : FS Tryd.prog 83 := ⟨by kernel_rfl⟩
instance : FT Tryd.prog 83 0 81 := ⟨by kernel_rfl⟩
instance : FO Tryd.prog 83 0 0 1 := ⟨by kernel_rfl, rfl⟩
instance : ZZ Tryd.prog 83 (.agg [.map none].toArray) := ⟨by kernel_rfl⟩
instance : ZV Tryd.prog 83 ([.map none]) := ⟨by kernel_rfl⟩
-- 84: struct { b []uint8 }
instance : SZ Tryd.prog 84 1 := ⟨by kernel_rfl⟩
instance : BY Tryd.prog 84 24 := ⟨by kernel_rfl⟩
instance : AG Tryd.prog 84 true := ⟨by kernel_rfl⟩
instance : FS Tryd.prog 84 := ⟨by kernel_rfl⟩
instance : FT Tryd.prog 84 0 38 := ⟨by kernel_rfl⟩
instance : FO Tryd.prog 84 0 0 1 := ⟨by kernel_rfl, rfl⟩
instance : ZZ Tryd.prog 84 (.agg [.slice none 0 0].toArray) := ⟨by kernel_rfl⟩
instance : ZV Tryd.prog 84 ([.slice none 0 0]) := ⟨by kernel_rfl⟩
-- 85: octet.Writer
instance : SZ Tryd.prog 85 1 := ⟨by kernel_rfl⟩
instance : BY Tryd.prog 85 24 := ⟨by kernel_rfl⟩
instance : AG Tryd.prog 85 true := ⟨by kernel_rfl⟩
instance : FS Tryd.prog 85 := ⟨by kernel_rfl⟩
instance : FT Tryd.prog 85 0 38 := ⟨by kernel_rfl⟩
instance : FO Tryd.prog 85 0 0 1 := ⟨by kernel_rfl, rfl⟩
instance : ZZ Tryd.prog 85 (.agg [.slice none 0 0].toArray) := ⟨by kernel_rfl⟩
instance : ZV Tryd.prog 85 ([.slice none 0 0]) := ⟨by kernel_rfl⟩
-- 86: func(...int)
instance : SZ Tryd.prog 86 1 := ⟨by kernel_rfl⟩
instance : BY Tryd.prog 86 8 := ⟨by kernel_rfl⟩
instance : AG Tryd.prog 86 false := ⟨by kernel_rfl⟩
instance : ZV Tryd.prog 86 ([.nilFunc]) := ⟨by kernel_rfl⟩
-- 87: func(...[]uint8)
instance : SZ Tryd.prog 87 1 := ⟨by kernel_rfl⟩
instance : BY Tryd.prog 87 8 := ⟨by kernel_rfl⟩
instance : AG Tryd.prog 87 false := ⟨by kernel_rfl⟩
instance : ZV Tryd.prog 87 ([.nilFunc]) := ⟨by kernel_rfl⟩
-- 88: func() []uint8
instance : SZ Tryd.prog 88 1 := ⟨by kernel_rfl⟩
instance : BY Tryd.prog 88 8 := ⟨by kernel_rfl⟩
instance : AG Tryd.prog 88 false := ⟨by kernel_rfl⟩
instance : ZV Tryd.prog 88 ([.nilFunc]) := ⟨by kernel_rfl⟩
-- 90: func(int) (*coord.producer, bool)
instance : SZ Tryd.prog 90 1 := ⟨by kernel_rfl⟩
instance : BY Tryd.prog 90 8 := ⟨by kernel_rfl⟩
instance : AG Tryd.prog 90 false := ⟨by kernel_rfl⟩
instance : ZV Tryd.prog 90 ([.nilFunc]) := ⟨by kernel_rfl⟩
-- 91: func(api.Op, *coord.producer) api.Errno
instance : SZ Tryd.prog 91 1 := ⟨by kernel_rfl⟩
instance : BY Tryd.prog 91 8 := ⟨by kernel_rfl⟩
instance : AG Tryd.prog 91 false := ⟨by kernel_rfl⟩
instance : ZV Tryd.prog 91 ([.nilFunc]) := ⟨by kernel_rfl⟩
-- 93: func(api.Op, *coord.producer) (api.Errno, []api.Mark)
instance : SZ Tryd.prog 93 1 := ⟨by kernel_rfl⟩
instance : BY Tryd.prog 93 8 := ⟨by kernel_rfl⟩
instance : AG Tryd.prog 93 false := ⟨by kernel_rfl⟩
instance : ZV Tryd.prog 93 ([.nilFunc]) := ⟨by kernel_rfl⟩
-- 94: func([]int)
instance : SZ Tryd.prog 94 1 := ⟨by kernel_rfl⟩
instance : BY Tryd.prog 94 8 := ⟨by kernel_rfl⟩
instance : AG Tryd.prog 94 false := ⟨by kernel_rfl⟩
instance : ZV Tryd.prog 94 ([.nilFunc]) := ⟨by kernel_rfl⟩
-- 95: func(int) bool
instance : SZ Tryd.prog 95 1 := ⟨by kernel_rfl⟩
instance : BY Tryd.prog 95 8 := ⟨by kernel_rfl⟩
instance : AG Tryd.prog 95 false := ⟨by kernel_rfl⟩
instance : ZV Tryd.prog 95 ([.nilFunc]) := ⟨by kernel_rfl⟩
-- 96: func(api.Mark) bool
instance : SZ Tryd.prog 96 1 := ⟨by kernel_rfl⟩
instance : BY Tryd.prog 96 8 := ⟨by kernel_rfl⟩
instance : AG Tryd.prog 96 false := ⟨by kernel_rfl⟩
instance : ZV Tryd.prog 96 ([.nilFunc]) := ⟨by kernel_rfl⟩
-- 97: uint32
instance : SZ Tryd.prog 97 1 := ⟨by kernel_rfl⟩
instance : BY Tryd.prog 97 4 := ⟨by kernel_rfl⟩
instance : AG Tryd.prog 97 false := ⟨by kernel_rfl⟩
instance : IK Tryd.prog 97 .u32 := ⟨by kernel_rfl⟩
instance : ZZ Tryd.prog 97 (.int .u32 0) := ⟨by kernel_rfl⟩
instance : ZV Tryd.prog 97 ([.int .u32 0]) := ⟨by kernel_rfl⟩
-- 98: [8]uint32
instance : SZ Tryd.prog 98 8 := ⟨by kernel_rfl⟩
instance : BY Tryd.prog 98 32 := ⟨by kernel_rfl⟩
instance : AG Tryd.prog 98 true := ⟨by kernel_rfl⟩
instance : AR Tryd.prog 98 8 97 := ⟨by kernel_rfl⟩
instance : ZV Tryd.prog 98 (List.replicate 8 (.int .u32 0)) := ⟨by kernel_rfl⟩
-- 99: digest.state
instance : SZ Tryd.prog 99 8 := ⟨by kernel_rfl⟩
instance : BY Tryd.prog 99 32 := ⟨by kernel_rfl⟩
instance : AG Tryd.prog 99 true := ⟨by kernel_rfl⟩
instance : AR Tryd.prog 99 8 97 := ⟨by kernel_rfl⟩
instance : ZV Tryd.prog 99 (List.replicate 8 (.int .u32 0)) := ⟨by kernel_rfl⟩
-- 100: [64]uint32
instance : SZ Tryd.prog 100 64 := ⟨by kernel_rfl⟩
instance : BY Tryd.prog 100 256 := ⟨by kernel_rfl⟩
instance : AG Tryd.prog 100 true := ⟨by kernel_rfl⟩
instance : AR Tryd.prog 100 64 97 := ⟨by kernel_rfl⟩
instance : ZV Tryd.prog 100 (List.replicate 64 (.int .u32 0)) := ⟨by kernel_rfl⟩
-- 101: func() [64]uint32
instance : SZ Tryd.prog 101 1 := ⟨by kernel_rfl⟩
instance : BY Tryd.prog 101 8 := ⟨by kernel_rfl⟩
instance : AG Tryd.prog 101 false := ⟨by kernel_rfl⟩
instance : ZV Tryd.prog 101 ([.nilFunc]) := ⟨by kernel_rfl⟩
-- 102: func([]uint8, *[64]uint32)
instance : SZ Tryd.prog 102 1 := ⟨by kernel_rfl⟩
instance : BY Tryd.prog 102 8 := ⟨by kernel_rfl⟩
instance : AG Tryd.prog 102 false := ⟨by kernel_rfl⟩
instance : ZV Tryd.prog 102 ([.nilFunc]) := ⟨by kernel_rfl⟩
-- 103: *[64]uint32
instance : SZ Tryd.prog 103 1 := ⟨by kernel_rfl⟩
instance : BY Tryd.prog 103 8 := ⟨by kernel_rfl⟩
instance : AG Tryd.prog 103 false := ⟨by kernel_rfl⟩
instance : PT Tryd.prog 103 100 := ⟨by kernel_rfl⟩
instance : ZZ Tryd.prog 103 (.pointer none) := ⟨by kernel_rfl⟩
instance : ZV Tryd.prog 103 ([.pointer none]) := ⟨by kernel_rfl⟩
-- 104: [128]uint8
instance : SZ Tryd.prog 104 128 := ⟨by kernel_rfl⟩
instance : BY Tryd.prog 104 128 := ⟨by kernel_rfl⟩
instance : AG Tryd.prog 104 true := ⟨by kernel_rfl⟩
instance : AR Tryd.prog 104 128 5 := ⟨by kernel_rfl⟩
instance : ZV Tryd.prog 104 (List.replicate 128 (.int .u8 0)) := ⟨by kernel_rfl⟩
-- 105: uint64
instance : SZ Tryd.prog 105 1 := ⟨by kernel_rfl⟩
instance : BY Tryd.prog 105 8 := ⟨by kernel_rfl⟩
instance : AG Tryd.prog 105 false := ⟨by kernel_rfl⟩
instance : IK Tryd.prog 105 .u64 := ⟨by kernel_rfl⟩
instance : ZZ Tryd.prog 105 (.int .u64 0) := ⟨by kernel_rfl⟩
instance : ZV Tryd.prog 105 ([.int .u64 0]) := ⟨by kernel_rfl⟩
-- 106: uint
instance : SZ Tryd.prog 106 1 := ⟨by kernel_rfl⟩
instance : BY Tryd.prog 106 8 := ⟨by kernel_rfl⟩
instance : AG Tryd.prog 106 false := ⟨by kernel_rfl⟩
instance : IK Tryd.prog 106 .u64 := ⟨by kernel_rfl⟩
instance : ZZ Tryd.prog 106 (.int .u64 0) := ⟨by kernel_rfl⟩
instance : ZV Tryd.prog 106 ([.int .u64 0]) := ⟨by kernel_rfl⟩
-- 107: func(string, string) string
instance : SZ Tryd.prog 107 1 := ⟨by kernel_rfl⟩
instance : BY Tryd.prog 107 8 := ⟨by kernel_rfl⟩
instance : AG Tryd.prog 107 false := ⟨by kernel_rfl⟩
instance : ZV Tryd.prog 107 ([.nilFunc]) := ⟨by kernel_rfl⟩
-- 108: func(int, int, int) bool
instance : SZ Tryd.prog 108 1 := ⟨by kernel_rfl⟩
instance : BY Tryd.prog 108 8 := ⟨by kernel_rfl⟩
instance : AG Tryd.prog 108 false := ⟨by kernel_rfl⟩
instance : ZV Tryd.prog 108 ([.nilFunc]) := ⟨by kernel_rfl⟩
-- 109: func(api.Op) api.Op
instance : SZ Tryd.prog 109 1 := ⟨by kernel_rfl⟩
instance : BY Tryd.prog 109 8 := ⟨by kernel_rfl⟩
instance : AG Tryd.prog 109 false := ⟨by kernel_rfl⟩
instance : ZV Tryd.prog 109 ([.nilFunc]) := ⟨by kernel_rfl⟩
-- 110: *octet.Writer
instance : SZ Tryd.prog 110 1 := ⟨by kernel_rfl⟩
instance : BY Tryd.prog 110 8 := ⟨by kernel_rfl⟩
instance : AG Tryd.prog 110 false := ⟨by kernel_rfl⟩
instance : PT Tryd.prog 110 85 := ⟨by kernel_rfl⟩
instance : ZZ Tryd.prog 110 (.pointer none) := ⟨by kernel_rfl⟩
instance : ZV Tryd.prog 110 ([.pointer none]) := ⟨by kernel_rfl⟩
-- 111: [][]uint8
instance : SZ Tryd.prog 111 1 := ⟨by kernel_rfl⟩
instance : BY Tryd.prog 111 24 := ⟨by kernel_rfl⟩
instance : AG Tryd.prog 111 false := ⟨by kernel_rfl⟩
instance : EL Tryd.prog 111 38 := ⟨by kernel_rfl⟩
instance : NI Tryd.prog 111 := ⟨by kernel_rfl⟩
instance : ZZ Tryd.prog 111 (.slice none 0 0) := ⟨by kernel_rfl⟩
instance : ZV Tryd.prog 111 ([.slice none 0 0]) := ⟨by kernel_rfl⟩
-- 112: func(...uint8)
instance : SZ Tryd.prog 112 1 := ⟨by kernel_rfl⟩
instance : BY Tryd.prog 112 8 := ⟨by kernel_rfl⟩
instance : AG Tryd.prog 112 false := ⟨by kernel_rfl⟩
instance : ZV Tryd.prog 112 ([.nilFunc]) := ⟨by kernel_rfl⟩
-- 113: func([]uint8) []uint8
instance : SZ Tryd.prog 113 1 := ⟨by kernel_rfl⟩
instance : BY Tryd.prog 113 8 := ⟨by kernel_rfl⟩
instance : AG Tryd.prog 113 false := ⟨by kernel_rfl⟩
instance : ZV Tryd.prog 113 ([.nilFunc]) := ⟨by kernel_rfl⟩
-- 115: func(string) (int, *coord.producer, bool)
instance : SZ Tryd.prog 115 1 := ⟨by kernel_rfl⟩
instance : BY Tryd.prog 115 8 := ⟨by kernel_rfl⟩
instance : AG Tryd.prog 115 false := ⟨by kernel_rfl⟩
instance : ZV Tryd.prog 115 ([.nilFunc]) := ⟨by kernel_rfl⟩
-- 116: func(int, *coord.producer)
instance : SZ Tryd.prog 116 1 := ⟨by kernel_rfl⟩
instance : BY Tryd.prog 116 8 := ⟨by kernel_rfl⟩
instance : AG Tryd.prog 116 false := ⟨by kernel_rfl⟩
instance : ZV Tryd.prog 116 ([.nilFunc]) := ⟨by kernel_rfl⟩
-- 117: func(int, *coord.producer, int) []api.Mark
instance : SZ Tryd.prog 117 1 := ⟨by kernel_rfl⟩
instance : BY Tryd.prog 117 8 := ⟨by kernel_rfl⟩
instance : AG Tryd.prog 117 false := ⟨by kernel_rfl⟩
instance : ZV Tryd.prog 117 ([.nilFunc]) := ⟨by kernel_rfl⟩
-- 118: func(api.Mark) []api.Mark
instance : SZ Tryd.prog 118 1 := ⟨by kernel_rfl⟩
instance : BY Tryd.prog 118 8 := ⟨by kernel_rfl⟩
instance : AG Tryd.prog 118 false := ⟨by kernel_rfl⟩
instance : ZV Tryd.prog 118 ([.nilFunc]) := ⟨by kernel_rfl⟩
-- 119: func(func(int, *coord.producer) bool)
instance : SZ Tryd.prog 119 1 := ⟨by kernel_rfl⟩
instance : BY Tryd.prog 119 8 := ⟨by kernel_rfl⟩
instance : AG Tryd.prog 119 false := ⟨by kernel_rfl⟩
instance : ZV Tryd.prog 119 ([.nilFunc]) := ⟨by kernel_rfl⟩
-- 120: iter.Seq2[int,*seneschal/coord.producer]
instance : SZ Tryd.prog 120 1 := ⟨by kernel_rfl⟩
instance : BY Tryd.prog 120 8 := ⟨by kernel_rfl⟩
instance : AG Tryd.prog 120 false := ⟨by kernel_rfl⟩
instance : ZV Tryd.prog 120 ([.nilFunc]) := ⟨by kernel_rfl⟩
-- 121: func() iter.Seq2[int,*seneschal/coord.producer]
instance : SZ Tryd.prog 121 1 := ⟨by kernel_rfl⟩
instance : BY Tryd.prog 121 8 := ⟨by kernel_rfl⟩
instance : AG Tryd.prog 121 false := ⟨by kernel_rfl⟩
instance : ZV Tryd.prog 121 ([.nilFunc]) := ⟨by kernel_rfl⟩
-- 122: func([]int, iter.Seq[int]) []int
instance : SZ Tryd.prog 122 1 := ⟨by kernel_rfl⟩
instance : BY Tryd.prog 122 8 := ⟨by kernel_rfl⟩
instance : AG Tryd.prog 122 false := ⟨by kernel_rfl⟩
instance : ZV Tryd.prog 122 ([.nilFunc]) := ⟨by kernel_rfl⟩
-- 123: func([]int, int, int, int)
instance : SZ Tryd.prog 123 1 := ⟨by kernel_rfl⟩
instance : BY Tryd.prog 123 8 := ⟨by kernel_rfl⟩
instance : AG Tryd.prog 123 false := ⟨by kernel_rfl⟩
instance : ZV Tryd.prog 123 ([.nilFunc]) := ⟨by kernel_rfl⟩
-- 124: func(uint) int
instance : SZ Tryd.prog 124 1 := ⟨by kernel_rfl⟩
instance : BY Tryd.prog 124 8 := ⟨by kernel_rfl⟩
instance : AG Tryd.prog 124 false := ⟨by kernel_rfl⟩
instance : ZV Tryd.prog 124 ([.nilFunc]) := ⟨by kernel_rfl⟩
-- 125: *digest.state
instance : SZ Tryd.prog 125 1 := ⟨by kernel_rfl⟩
instance : BY Tryd.prog 125 8 := ⟨by kernel_rfl⟩
instance : AG Tryd.prog 125 false := ⟨by kernel_rfl⟩
instance : PT Tryd.prog 125 99 := ⟨by kernel_rfl⟩
instance : ZZ Tryd.prog 125 (.pointer none) := ⟨by kernel_rfl⟩
instance : ZV Tryd.prog 125 ([.pointer none]) := ⟨by kernel_rfl⟩
-- 126: func(uint32) uint32
instance : SZ Tryd.prog 126 1 := ⟨by kernel_rfl⟩
instance : BY Tryd.prog 126 8 := ⟨by kernel_rfl⟩
instance : AG Tryd.prog 126 false := ⟨by kernel_rfl⟩
instance : ZV Tryd.prog 126 ([.nilFunc]) := ⟨by kernel_rfl⟩
-- 127: func(uint32, uint32, uint32) uint32
instance : SZ Tryd.prog 127 1 := ⟨by kernel_rfl⟩
instance : BY Tryd.prog 127 8 := ⟨by kernel_rfl⟩
instance : AG Tryd.prog 127 false := ⟨by kernel_rfl⟩
instance : ZV Tryd.prog 127 ([.nilFunc]) := ⟨by kernel_rfl⟩
-- 128: func(string, uint8) string
instance : SZ Tryd.prog 128 1 := ⟨by kernel_rfl⟩
instance : BY Tryd.prog 128 8 := ⟨by kernel_rfl⟩
instance : AG Tryd.prog 128 false := ⟨by kernel_rfl⟩
instance : ZV Tryd.prog 128 ([.nilFunc]) := ⟨by kernel_rfl⟩
-- 129: [256]bool
instance : SZ Tryd.prog 129 256 := ⟨by kernel_rfl⟩
instance : BY Tryd.prog 129 256 := ⟨by kernel_rfl⟩
instance : AG Tryd.prog 129 true := ⟨by kernel_rfl⟩
instance : AR Tryd.prog 129 256 4 := ⟨by kernel_rfl⟩
instance : ZV Tryd.prog 129 (List.replicate 256 (.bool false)) := ⟨by kernel_rfl⟩
-- 130: strings.asciiSet
instance : SZ Tryd.prog 130 256 := ⟨by kernel_rfl⟩
instance : BY Tryd.prog 130 256 := ⟨by kernel_rfl⟩
instance : AG Tryd.prog 130 true := ⟨by kernel_rfl⟩
instance : AR Tryd.prog 130 256 4 := ⟨by kernel_rfl⟩
instance : ZV Tryd.prog 130 (List.replicate 256 (.bool false)) := ⟨by kernel_rfl⟩
-- 132: func(string) (strings.asciiSet, bool)
instance : SZ Tryd.prog 132 1 := ⟨by kernel_rfl⟩
instance : BY Tryd.prog 132 8 := ⟨by kernel_rfl⟩
instance : AG Tryd.prog 132 false := ⟨by kernel_rfl⟩
instance : ZV Tryd.prog 132 ([.nilFunc]) := ⟨by kernel_rfl⟩
-- 133: func(string, *strings.asciiSet) string
instance : SZ Tryd.prog 133 1 := ⟨by kernel_rfl⟩
instance : BY Tryd.prog 133 8 := ⟨by kernel_rfl⟩
instance : AG Tryd.prog 133 false := ⟨by kernel_rfl⟩
instance : ZV Tryd.prog 133 ([.nilFunc]) := ⟨by kernel_rfl⟩
-- 134: *strings.asciiSet
instance : SZ Tryd.prog 134 1 := ⟨by kernel_rfl⟩
instance : BY Tryd.prog 134 8 := ⟨by kernel_rfl⟩
instance : AG Tryd.prog 134 false := ⟨by kernel_rfl⟩
instance : PT Tryd.prog 134 130 := ⟨by kernel_rfl⟩
instance : ZZ Tryd.prog 134 (.pointer none) := ⟨by kernel_rfl⟩
instance : ZV Tryd.prog 134 ([.pointer none]) := ⟨by kernel_rfl⟩
-- 135: func(func(int) bool) iter.Seq2[int,*seneschal/coord.producer
instance : SZ Tryd.prog 135 1 := ⟨by kernel_rfl⟩
instance : BY Tryd.prog 135 8 := ⟨by kernel_rfl⟩
instance : AG Tryd.prog 135 false := ⟨by kernel_rfl⟩
instance : ZV Tryd.prog 135 ([.nilFunc]) := ⟨by kernel_rfl⟩
-- 136: func([]int, int, int)
instance : SZ Tryd.prog 136 1 := ⟨by kernel_rfl⟩
instance : BY Tryd.prog 136 8 := ⟨by kernel_rfl⟩
instance : AG Tryd.prog 136 false := ⟨by kernel_rfl⟩
instance : ZV Tryd.prog 136 ([.nilFunc]) := ⟨by kernel_rfl⟩
-- 137: slices.sortedHint
instance : SZ Tryd.prog 137 1 := ⟨by kernel_rfl⟩
instance : BY Tryd.prog 137 8 := ⟨by kernel_rfl⟩
instance : AG Tryd.prog 137 false := ⟨by kernel_rfl⟩
instance : IK Tryd.prog 137 .i64 := ⟨by kernel_rfl⟩
instance : ZZ Tryd.prog 137 (.int .i64 0) := ⟨by kernel_rfl⟩
instance : ZV Tryd.prog 137 ([.int .i64 0]) := ⟨by kernel_rfl⟩
-- 139: func([]int, int, int) (int, slices.sortedHint)
instance : SZ Tryd.prog 139 1 := ⟨by kernel_rfl⟩
instance : BY Tryd.prog 139 8 := ⟨by kernel_rfl⟩
instance : AG Tryd.prog 139 false := ⟨by kernel_rfl⟩
instance : ZV Tryd.prog 139 ([.nilFunc]) := ⟨by kernel_rfl⟩
-- 140: func([]int, int, int) bool
instance : SZ Tryd.prog 140 1 := ⟨by kernel_rfl⟩
instance : BY Tryd.prog 140 8 := ⟨by kernel_rfl⟩
instance : AG Tryd.prog 140 false := ⟨by kernel_rfl⟩
instance : ZV Tryd.prog 140 ([.nilFunc]) := ⟨by kernel_rfl⟩
-- 141: func([]int, int, int, int) int
instance : SZ Tryd.prog 141 1 := ⟨by kernel_rfl⟩
instance : BY Tryd.prog 141 8 := ⟨by kernel_rfl⟩
instance : AG Tryd.prog 141 false := ⟨by kernel_rfl⟩
instance : ZV Tryd.prog 141 ([.nilFunc]) := ⟨by kernel_rfl⟩
-- 142: func([]int, int, int, int) (int, bool)
instance : SZ Tryd.prog 142 1 := ⟨by kernel_rfl⟩
instance : BY Tryd.prog 142 8 := ⟨by kernel_rfl⟩
instance : AG Tryd.prog 142 false := ⟨by kernel_rfl⟩
instance : ZV Tryd.prog 142 ([.nilFunc]) := ⟨by kernel_rfl⟩
-- 143: func(uint32) int
instance : SZ Tryd.prog 143 1 := ⟨by kernel_rfl⟩
instance : BY Tryd.prog 143 8 := ⟨by kernel_rfl⟩
instance : AG Tryd.prog 143 false := ⟨by kernel_rfl⟩
instance : ZV Tryd.prog 143 ([.nilFunc]) := ⟨by kernel_rfl⟩
-- 144: func(uint64) int
instance : SZ Tryd.prog 144 1 := ⟨by kernel_rfl⟩
instance : BY Tryd.prog 144 8 := ⟨by kernel_rfl⟩
instance : AG Tryd.prog 144 false := ⟨by kernel_rfl⟩
instance : ZV Tryd.prog 144 ([.nilFunc]) := ⟨by kernel_rfl⟩
-- 145: func(uint32, uint) uint32
instance : SZ Tryd.prog 145 1 := ⟨by kernel_rfl⟩
instance : BY Tryd.prog 145 8 := ⟨by kernel_rfl⟩
instance : AG Tryd.prog 145 false := ⟨by kernel_rfl⟩
instance : ZV Tryd.prog 145 ([.nilFunc]) := ⟨by kernel_rfl⟩
-- 146: func(uint8) bool
instance : SZ Tryd.prog 146 1 := ⟨by kernel_rfl⟩
instance : BY Tryd.prog 146 8 := ⟨by kernel_rfl⟩
instance : AG Tryd.prog 146 false := ⟨by kernel_rfl⟩
instance : ZV Tryd.prog 146 ([.nilFunc]) := ⟨by kernel_rfl⟩
-- 148: func(string) (int32, int)
instance : SZ Tryd.prog 148 1 := ⟨by kernel_rfl⟩
instance : BY Tryd.prog 148 8 := ⟨by kernel_rfl⟩
instance : AG Tryd.prog 148 false := ⟨by kernel_rfl⟩
instance : ZV Tryd.prog 148 ([.nilFunc]) := ⟨by kernel_rfl⟩
-- 149: func(string, int32) bool
instance : SZ Tryd.prog 149 1 := ⟨by kernel_rfl⟩
instance : BY Tryd.prog 149 8 := ⟨by kernel_rfl⟩
instance : AG Tryd.prog 149 false := ⟨by kernel_rfl⟩
instance : ZV Tryd.prog 149 ([.nilFunc]) := ⟨by kernel_rfl⟩
-- 150: func(int, *coord.producer) bool
instance : SZ Tryd.prog 150 1 := ⟨by kernel_rfl⟩
instance : BY Tryd.prog 150 8 := ⟨by kernel_rfl⟩
instance : AG Tryd.prog 150 false := ⟨by kernel_rfl⟩
instance : ZV Tryd.prog 150 ([.nilFunc]) := ⟨by kernel_rfl⟩
-- 151: func(map[int]*coord.producer) map[int]*coord.producer
instance : SZ Tryd.prog 151 1 := ⟨by kernel_rfl⟩
instance : BY Tryd.prog 151 8 := ⟨by kernel_rfl⟩
instance : AG Tryd.prog 151 false := ⟨by kernel_rfl⟩
instance : ZV Tryd.prog 151 ([.nilFunc]) := ⟨by kernel_rfl⟩
-- 152: func(map[int]*coord.producer) iter.Seq[int]
instance : SZ Tryd.prog 152 1 := ⟨by kernel_rfl⟩
instance : BY Tryd.prog 152 8 := ⟨by kernel_rfl⟩
instance : AG Tryd.prog 152 false := ⟨by kernel_rfl⟩
instance : ZV Tryd.prog 152 ([.nilFunc]) := ⟨by kernel_rfl⟩
-- 153: slices.xorshift
instance : SZ Tryd.prog 153 1 := ⟨by kernel_rfl⟩
instance : BY Tryd.prog 153 8 := ⟨by kernel_rfl⟩
instance : AG Tryd.prog 153 false := ⟨by kernel_rfl⟩
instance : IK Tryd.prog 153 .u64 := ⟨by kernel_rfl⟩
instance : ZZ Tryd.prog 153 (.int .u64 0) := ⟨by kernel_rfl⟩
instance : ZV Tryd.prog 153 ([.int .u64 0]) := ⟨by kernel_rfl⟩
-- 154: func(int) uint
instance : SZ Tryd.prog 154 1 := ⟨by kernel_rfl⟩
instance : BY Tryd.prog 154 8 := ⟨by kernel_rfl⟩
instance : AG Tryd.prog 154 false := ⟨by kernel_rfl⟩
instance : ZV Tryd.prog 154 ([.nilFunc]) := ⟨by kernel_rfl⟩
-- 155: func() uint64
instance : SZ Tryd.prog 155 1 := ⟨by kernel_rfl⟩
instance : BY Tryd.prog 155 8 := ⟨by kernel_rfl⟩
instance : AG Tryd.prog 155 false := ⟨by kernel_rfl⟩
instance : ZV Tryd.prog 155 ([.nilFunc]) := ⟨by kernel_rfl⟩
-- 156: func([]int, int, *int) int
instance : SZ Tryd.prog 156 1 := ⟨by kernel_rfl⟩
instance : BY Tryd.prog 156 8 := ⟨by kernel_rfl⟩
instance : AG Tryd.prog 156 false := ⟨by kernel_rfl⟩
instance : ZV Tryd.prog 156 ([.nilFunc]) := ⟨by kernel_rfl⟩
-- 157: *int
instance : SZ Tryd.prog 157 1 := ⟨by kernel_rfl⟩
instance : BY Tryd.prog 157 8 := ⟨by kernel_rfl⟩
instance : AG Tryd.prog 157 false := ⟨by kernel_rfl⟩
instance : PT Tryd.prog 157 3 := ⟨by kernel_rfl⟩
instance : ZZ Tryd.prog 157 (.pointer none) := ⟨by kernel_rfl⟩
instance : ZV Tryd.prog 157 ([.pointer none]) := ⟨by kernel_rfl⟩
-- 158: func([]int, int, int, int, *int) int
instance : SZ Tryd.prog 158 1 := ⟨by kernel_rfl⟩
instance : BY Tryd.prog 158 8 := ⟨by kernel_rfl⟩
instance : AG Tryd.prog 158 false := ⟨by kernel_rfl⟩
instance : ZV Tryd.prog 158 ([.nilFunc]) := ⟨by kernel_rfl⟩
-- 159: func(string, int32) int
instance : SZ Tryd.prog 159 1 := ⟨by kernel_rfl⟩
instance : BY Tryd.prog 159 8 := ⟨by kernel_rfl⟩
instance : AG Tryd.prog 159 false := ⟨by kernel_rfl⟩
instance : ZV Tryd.prog 159 ([.nilFunc]) := ⟨by kernel_rfl⟩
-- 160: func(interface {}) interface {}
instance : SZ Tryd.prog 160 1 := ⟨by kernel_rfl⟩
instance : BY Tryd.prog 160 8 := ⟨by kernel_rfl⟩
instance : AG Tryd.prog 160 false := ⟨by kernel_rfl⟩
instance : ZV Tryd.prog 160 ([.nilFunc]) := ⟨by kernel_rfl⟩
-- 161: *slices.xorshift
instance : SZ Tryd.prog 161 1 := ⟨by kernel_rfl⟩
instance : BY Tryd.prog 161 8 := ⟨by kernel_rfl⟩
instance : AG Tryd.prog 161 false := ⟨by kernel_rfl⟩
instance : PT Tryd.prog 161 153 := ⟨by kernel_rfl⟩
instance : ZZ Tryd.prog 161 (.pointer none) := ⟨by kernel_rfl⟩
instance : ZV Tryd.prog 161 ([.pointer none]) := ⟨by kernel_rfl⟩
-- 163: func([]int, int, int, *int) (int, int)
instance : SZ Tryd.prog 163 1 := ⟨by kernel_rfl⟩
instance : BY Tryd.prog 163 8 := ⟨by kernel_rfl⟩
instance : AG Tryd.prog 163 false := ⟨by kernel_rfl⟩
instance : ZV Tryd.prog 163 ([.nilFunc]) := ⟨by kernel_rfl⟩
-- 164: [256]uint8
instance : SZ Tryd.prog 164 256 := ⟨by kernel_rfl⟩
instance : BY Tryd.prog 164 256 := ⟨by kernel_rfl⟩
instance : AG Tryd.prog 164 true := ⟨by kernel_rfl⟩
instance : AR Tryd.prog 164 256 5 := ⟨by kernel_rfl⟩
instance : ZV Tryd.prog 164 (List.replicate 256 (.int .u8 0)) := ⟨by kernel_rfl⟩
-- 165: struct { lo uint8; hi uint8 }
instance : SZ Tryd.prog 165 2 := ⟨by kernel_rfl⟩
instance : BY Tryd.prog 165 2 := ⟨by kernel_rfl⟩
instance : AG Tryd.prog 165 true := ⟨by kernel_rfl⟩
instance : FS Tryd.prog 165 := ⟨by kernel_rfl⟩
instance : FT Tryd.prog 165 0 5 := ⟨by kernel_rfl⟩
instance : FO Tryd.prog 165 0 0 1 := ⟨by kernel_rfl, rfl⟩
instance : FT Tryd.prog 165 1 5 := ⟨by kernel_rfl⟩
instance : FO Tryd.prog 165 1 1 1 := ⟨by kernel_rfl, rfl⟩
instance : ZZ Tryd.prog 165 (.agg [.int .u8 0, .int .u8 0].toArray) := ⟨by kernel_rfl⟩
instance : ZV Tryd.prog 165 ([.int .u8 0, .int .u8 0]) := ⟨by kernel_rfl⟩
-- 166: utf8.acceptRange
instance : SZ Tryd.prog 166 2 := ⟨by kernel_rfl⟩
instance : BY Tryd.prog 166 2 := ⟨by kernel_rfl⟩
instance : AG Tryd.prog 166 true := ⟨by kernel_rfl⟩
instance : FS Tryd.prog 166 := ⟨by kernel_rfl⟩
instance : FT Tryd.prog 166 0 5 := ⟨by kernel_rfl⟩
instance : FO Tryd.prog 166 0 0 1 := ⟨by kernel_rfl, rfl⟩
instance : FT Tryd.prog 166 1 5 := ⟨by kernel_rfl⟩
instance : FO Tryd.prog 166 1 1 1 := ⟨by kernel_rfl, rfl⟩
instance : ZZ Tryd.prog 166 (.agg [.int .u8 0, .int .u8 0].toArray) := ⟨by kernel_rfl⟩
instance : ZV Tryd.prog 166 ([.int .u8 0, .int .u8 0]) := ⟨by kernel_rfl⟩
-- 167: [16]utf8.acceptRange
instance : SZ Tryd.prog 167 32 := ⟨by kernel_rfl⟩
instance : BY Tryd.prog 167 32 := ⟨by kernel_rfl⟩
instance : AG Tryd.prog 167 true := ⟨by kernel_rfl⟩
instance : AR Tryd.prog 167 16 166 := ⟨by kernel_rfl⟩
instance : ZV Tryd.prog 167 (List.replicate 32 (.int .u8 0)) := ⟨by kernel_rfl⟩
-- 168: func(string, uint8) int
instance : SZ Tryd.prog 168 1 := ⟨by kernel_rfl⟩
instance : BY Tryd.prog 168 8 := ⟨by kernel_rfl⟩
instance : AG Tryd.prog 168 false := ⟨by kernel_rfl⟩
instance : ZV Tryd.prog 168 ([.nilFunc]) := ⟨by kernel_rfl⟩
-- 169: func(int32) bool
instance : SZ Tryd.prog 169 1 := ⟨by kernel_rfl⟩
instance : BY Tryd.prog 169 8 := ⟨by kernel_rfl⟩
instance : AG Tryd.prog 169 false := ⟨by kernel_rfl⟩
instance : ZV Tryd.prog 169 ([.nilFunc]) := ⟨by kernel_rfl⟩
-- 170: func(int) int
instance : SZ Tryd.prog 170 1 := ⟨by kernel_rfl⟩
instance : BY Tryd.prog 170 8 := ⟨by kernel_rfl⟩
instance : AG Tryd.prog 170 false := ⟨by kernel_rfl⟩
instance : ZV Tryd.prog 170 ([.nilFunc]) := ⟨by kernel_rfl⟩
-- 171: func(string, string) int
instance : SZ Tryd.prog 171 1 := ⟨by kernel_rfl⟩
instance : BY Tryd.prog 171 8 := ⟨by kernel_rfl⟩
instance : AG Tryd.prog 171 false := ⟨by kernel_rfl⟩
instance : ZV Tryd.prog 171 ([.nilFunc]) := ⟨by kernel_rfl⟩
-- 172: func() string
instance : SZ Tryd.prog 172 1 := ⟨by kernel_rfl⟩
instance : BY Tryd.prog 172 8 := ⟨by kernel_rfl⟩
instance : AG Tryd.prog 172 false := ⟨by kernel_rfl⟩
instance : ZV Tryd.prog 172 ([.nilFunc]) := ⟨by kernel_rfl⟩
-- 175: [0]*runtime.PanicNilError
instance : SZ Tryd.prog 175 0 := ⟨by kernel_rfl⟩
instance : BY Tryd.prog 175 0 := ⟨by kernel_rfl⟩
instance : AG Tryd.prog 175 true := ⟨by kernel_rfl⟩
instance : AR Tryd.prog 175 0 16 := ⟨by kernel_rfl⟩
instance : ZV Tryd.prog 175 ([]) := ⟨by kernel_rfl⟩
-- 180: func(unsafe.Pointer, unsafe.Pointer) bool
instance : SZ Tryd.prog 180 1 := ⟨by kernel_rfl⟩
instance : BY Tryd.prog 180 8 := ⟨by kernel_rfl⟩
instance : AG Tryd.prog 180 false := ⟨by kernel_rfl⟩
instance : ZV Tryd.prog 180 ([.nilFunc]) := ⟨by kernel_rfl⟩
-- 181: *uint8
instance : SZ Tryd.prog 181 1 := ⟨by kernel_rfl⟩
instance : BY Tryd.prog 181 8 := ⟨by kernel_rfl⟩
instance : AG Tryd.prog 181 false := ⟨by kernel_rfl⟩
instance : PT Tryd.prog 181 5 := ⟨by kernel_rfl⟩
instance : ZZ Tryd.prog 181 (.pointer none) := ⟨by kernel_rfl⟩
instance : ZV Tryd.prog 181 ([.pointer none]) := ⟨by kernel_rfl⟩
end Go.Proofs.YtccgdnocldmjeaaDoor
