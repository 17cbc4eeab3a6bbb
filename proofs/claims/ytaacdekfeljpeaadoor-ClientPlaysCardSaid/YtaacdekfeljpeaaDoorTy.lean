/- The facts on the types of this seat's program, each shown by the kernel. Written by gen_ty.py. -/
import Derived.Test.YtaacdekfeljpeaaDoorProg
import Derived.Test.YtaacdekfeljpeaaDoorK
import Derived.KernelRfl
namespace Go.Proofs.YtaacdekfeljpeaaDoor
open Go
-- 1: func()
instance : SZ Tryd.prog 1 1 := ⟨by kernel_rfl⟩
instance : BY Tryd.prog 1 8 := ⟨by kernel_rfl⟩
instance : AG Tryd.prog 1 false := ⟨by kernel_rfl⟩
instance : ZV Tryd.prog 1 ([.nilFunc]) := ⟨by kernel_rfl⟩
-- 2: int64
instance : SZ Tryd.prog 2 1 := ⟨by kernel_rfl⟩
instance : BY Tryd.prog 2 8 := ⟨by kernel_rfl⟩
instance : AG Tryd.prog 2 false := ⟨by kernel_rfl⟩
instance : IK Tryd.prog 2 .i64 := ⟨by kernel_rfl⟩
instance : ZZ Tryd.prog 2 (.int .i64 0) := ⟨by kernel_rfl⟩
instance : ZV Tryd.prog 2 ([.int .i64 0]) := ⟨by kernel_rfl⟩
-- 3: int
instance : SZ Tryd.prog 3 1 := ⟨by kernel_rfl⟩
instance : BY Tryd.prog 3 8 := ⟨by kernel_rfl⟩
instance : AG Tryd.prog 3 false := ⟨by kernel_rfl⟩
instance : IK Tryd.prog 3 .i64 := ⟨by kernel_rfl⟩
instance : ZZ Tryd.prog 3 (.int .i64 0) := ⟨by kernel_rfl⟩
instance : ZV Tryd.prog 3 ([.int .i64 0]) := ⟨by kernel_rfl⟩
-- 4: bool
instance : SZ Tryd.prog 4 1 := ⟨by kernel_rfl⟩
instance : BY Tryd.prog 4 1 := ⟨by kernel_rfl⟩
instance : AG Tryd.prog 4 false := ⟨by kernel_rfl⟩
instance : BL Tryd.prog 4 := ⟨by kernel_rfl⟩
instance : ZZ Tryd.prog 4 (.bool false) := ⟨by kernel_rfl⟩
instance : ZV Tryd.prog 4 ([.bool false]) := ⟨by kernel_rfl⟩
-- 5: uint8
instance : SZ Tryd.prog 5 1 := ⟨by kernel_rfl⟩
instance : BY Tryd.prog 5 1 := ⟨by kernel_rfl⟩
instance : AG Tryd.prog 5 false := ⟨by kernel_rfl⟩
instance : IK Tryd.prog 5 .u8 := ⟨by kernel_rfl⟩
instance : ZZ Tryd.prog 5 (.int .u8 0) := ⟨by kernel_rfl⟩
instance : ZV Tryd.prog 5 ([.int .u8 0]) := ⟨by kernel_rfl⟩
-- 9: string
instance : SZ Tryd.prog 9 1 := ⟨by kernel_rfl⟩
instance : BY Tryd.prog 9 16 := ⟨by kernel_rfl⟩
instance : AG Tryd.prog 9 false := ⟨by kernel_rfl⟩
instance : NI Tryd.prog 9 := ⟨by kernel_rfl⟩
instance : ST Tryd.prog 9 := ⟨by kernel_rfl⟩
instance : ZZ Tryd.prog 9 (.string (ByteArray.mk #[])) := ⟨by kernel_rfl⟩
instance : ZV Tryd.prog 9 ([.string (ByteArray.mk #[])]) := ⟨by kernel_rfl⟩
-- 12: uintptr
instance : SZ Tryd.prog 12 1 := ⟨by kernel_rfl⟩
instance : BY Tryd.prog 12 8 := ⟨by kernel_rfl⟩
instance : AG Tryd.prog 12 false := ⟨by kernel_rfl⟩
instance : IK Tryd.prog 12 .u64 := ⟨by kernel_rfl⟩
instance : ZZ Tryd.prog 12 (.int .u64 0) := ⟨by kernel_rfl⟩
instance : ZV Tryd.prog 12 ([.int .u64 0]) := ⟨by kernel_rfl⟩
-- 13: struct { msg string; addr uintptr }
instance : SZ Tryd.prog 13 2 := ⟨by kernel_rfl⟩
instance : BY Tryd.prog 13 24 := ⟨by kernel_rfl⟩
instance : AG Tryd.prog 13 true := ⟨by kernel_rfl⟩
instance : FS Tryd.prog 13 := ⟨by kernel_rfl⟩
instance : FT Tryd.prog 13 0 9 := ⟨by kernel_rfl⟩
instance : FO Tryd.prog 13 0 0 1 := ⟨by kernel_rfl, rfl⟩
instance : FT Tryd.prog 13 1 12 := ⟨by kernel_rfl⟩
instance : FO Tryd.prog 13 1 1 1 := ⟨by kernel_rfl, rfl⟩
instance : ZZ Tryd.prog 13 (.agg [.string (ByteArray.mk #[]), .int .u64 0].toArray) := ⟨by kernel_rfl⟩
instance : ZV Tryd.prog 13 ([.string (ByteArray.mk #[]), .int .u64 0]) := ⟨by kernel_rfl⟩
-- 20: interface {}
instance : SZ Tryd.prog 20 1 := ⟨by kernel_rfl⟩
instance : BY Tryd.prog 20 16 := ⟨by kernel_rfl⟩
instance : AG Tryd.prog 20 false := ⟨by kernel_rfl⟩
instance : ZV Tryd.prog 20 ([.nilIface]) := ⟨by kernel_rfl⟩
-- 21: int32
instance : SZ Tryd.prog 21 1 := ⟨by kernel_rfl⟩
instance : BY Tryd.prog 21 4 := ⟨by kernel_rfl⟩
instance : AG Tryd.prog 21 false := ⟨by kernel_rfl⟩
instance : IK Tryd.prog 21 .i32 := ⟨by kernel_rfl⟩
instance : ZZ Tryd.prog 21 (.int .i32 0) := ⟨by kernel_rfl⟩
instance : ZV Tryd.prog 21 ([.int .i32 0]) := ⟨by kernel_rfl⟩
-- 22: api.Errno
instance : SZ Tryd.prog 22 1 := ⟨by kernel_rfl⟩
instance : BY Tryd.prog 22 8 := ⟨by kernel_rfl⟩
instance : AG Tryd.prog 22 false := ⟨by kernel_rfl⟩
instance : IK Tryd.prog 22 .i64 := ⟨by kernel_rfl⟩
instance : ZZ Tryd.prog 22 (.int .i64 0) := ⟨by kernel_rfl⟩
instance : ZV Tryd.prog 22 ([.int .i64 0]) := ⟨by kernel_rfl⟩
-- 23: struct { Err api.Errno; Producer int; Epoch int }
instance : SZ Tryd.prog 23 3 := ⟨by kernel_rfl⟩
instance : BY Tryd.prog 23 24 := ⟨by kernel_rfl⟩
instance : AG Tryd.prog 23 true := ⟨by kernel_rfl⟩
instance : FS Tryd.prog 23 := ⟨by kernel_rfl⟩
instance : FT Tryd.prog 23 0 22 := ⟨by kernel_rfl⟩
instance : FO Tryd.prog 23 0 0 1 := ⟨by kernel_rfl, rfl⟩
instance : FT Tryd.prog 23 1 3 := ⟨by kernel_rfl⟩
instance : FO Tryd.prog 23 1 1 1 := ⟨by kernel_rfl, rfl⟩
instance : FT Tryd.prog 23 2 3 := ⟨by kernel_rfl⟩
instance : FO Tryd.prog 23 2 2 1 := ⟨by kernel_rfl, rfl⟩
instance : ZZ Tryd.prog 23 (.agg [.int .i64 0, .int .i64 0, .int .i64 0].toArray) := ⟨by kernel_rfl⟩
instance : ZV Tryd.prog 23 ([.int .i64 0, .int .i64 0, .int .i64 0]) := ⟨by kernel_rfl⟩
-- 24: api.Reply
instance : SZ Tryd.prog 24 3 := ⟨by kernel_rfl⟩
instance : BY Tryd.prog 24 24 := ⟨by kernel_rfl⟩
instance : AG Tryd.prog 24 true := ⟨by kernel_rfl⟩
instance : FS Tryd.prog 24 := ⟨by kernel_rfl⟩
instance : FT Tryd.prog 24 0 22 := ⟨by kernel_rfl⟩
instance : FO Tryd.prog 24 0 0 1 := ⟨by kernel_rfl, rfl⟩
instance : FT Tryd.prog 24 1 3 := ⟨by kernel_rfl⟩
instance : FO Tryd.prog 24 1 1 1 := ⟨by kernel_rfl, rfl⟩
instance : FT Tryd.prog 24 2 3 := ⟨by kernel_rfl⟩
instance : FO Tryd.prog 24 2 2 1 := ⟨by kernel_rfl, rfl⟩
instance : ZZ Tryd.prog 24 (.agg [.int .i64 0, .int .i64 0, .int .i64 0].toArray) := ⟨by kernel_rfl⟩
instance : ZV Tryd.prog 24 ([.int .i64 0, .int .i64 0, .int .i64 0]) := ⟨by kernel_rfl⟩
-- 25: func() bool
instance : SZ Tryd.prog 25 1 := ⟨by kernel_rfl⟩
instance : BY Tryd.prog 25 8 := ⟨by kernel_rfl⟩
instance : AG Tryd.prog 25 false := ⟨by kernel_rfl⟩
instance : ZV Tryd.prog 25 ([.nilFunc]) := ⟨by kernel_rfl⟩
-- 26: *client.Client
instance : SZ Tryd.prog 26 1 := ⟨by kernel_rfl⟩
instance : BY Tryd.prog 26 8 := ⟨by kernel_rfl⟩
instance : AG Tryd.prog 26 false := ⟨by kernel_rfl⟩
instance : PT Tryd.prog 26 68 := ⟨by kernel_rfl⟩
instance : ZZ Tryd.prog 26 (.pointer none) := ⟨by kernel_rfl⟩
instance : ZV Tryd.prog 26 ([.pointer none]) := ⟨by kernel_rfl⟩
-- 27: func(int, string) *client.Client
instance : SZ Tryd.prog 27 1 := ⟨by kernel_rfl⟩
instance : BY Tryd.prog 27 8 := ⟨by kernel_rfl⟩
instance : AG Tryd.prog 27 false := ⟨by kernel_rfl⟩
instance : ZV Tryd.prog 27 ([.nilFunc]) := ⟨by kernel_rfl⟩
-- 28: struct { Kind int; Client int; Seq int; Name string; Produce
instance : SZ Tryd.prog 28 9 := ⟨by kernel_rfl⟩
instance : BY Tryd.prog 28 80 := ⟨by kernel_rfl⟩
instance : AG Tryd.prog 28 true := ⟨by kernel_rfl⟩
instance : FS Tryd.prog 28 := ⟨by kernel_rfl⟩
instance : FT Tryd.prog 28 0 3 := ⟨by kernel_rfl⟩
instance : FO Tryd.prog 28 0 0 1 := ⟨by kernel_rfl, rfl⟩
instance : FT Tryd.prog 28 1 3 := ⟨by kernel_rfl⟩
instance : FO Tryd.prog 28 1 1 1 := ⟨by kernel_rfl, rfl⟩
instance : FT Tryd.prog 28 2 3 := ⟨by kernel_rfl⟩
instance : FO Tryd.prog 28 2 2 1 := ⟨by kernel_rfl, rfl⟩
instance : FT Tryd.prog 28 3 9 := ⟨by kernel_rfl⟩
instance : FO Tryd.prog 28 3 3 1 := ⟨by kernel_rfl, rfl⟩
instance : FT Tryd.prog 28 4 3 := ⟨by kernel_rfl⟩
instance : FO Tryd.prog 28 4 4 1 := ⟨by kernel_rfl, rfl⟩
instance : FT Tryd.prog 28 5 3 := ⟨by kernel_rfl⟩
instance : FO Tryd.prog 28 5 5 1 := ⟨by kernel_rfl, rfl⟩
instance : FT Tryd.prog 28 6 3 := ⟨by kernel_rfl⟩
instance : FO Tryd.prog 28 6 6 1 := ⟨by kernel_rfl, rfl⟩
instance : FT Tryd.prog 28 7 3 := ⟨by kernel_rfl⟩
instance : FO Tryd.prog 28 7 7 1 := ⟨by kernel_rfl, rfl⟩
instance : FT Tryd.prog 28 8 4 := ⟨by kernel_rfl⟩
instance : FO Tryd.prog 28 8 8 1 := ⟨by kernel_rfl, rfl⟩
instance : ZZ Tryd.prog 28 (.agg [.int .i64 0, .int .i64 0, .int .i64 0, .string (ByteArray.mk #[]), .int .i64 0, .int .i64 0, .int .i64 0, .int .i64 0, .bool false].toArray) := ⟨by kernel_rfl⟩
instance : ZV Tryd.prog 28 ([.int .i64 0, .int .i64 0, .int .i64 0, .string (ByteArray.mk #[]), .int .i64 0, .int .i64 0, .int .i64 0, .int .i64 0, .bool false]) := ⟨by kernel_rfl⟩
-- 29: api.Op
instance : SZ Tryd.prog 29 9 := ⟨by kernel_rfl⟩
instance : BY Tryd.prog 29 80 := ⟨by kernel_rfl⟩
instance : AG Tryd.prog 29 true := ⟨by kernel_rfl⟩
instance : FS Tryd.prog 29 := ⟨by kernel_rfl⟩
instance : FT Tryd.prog 29 0 3 := ⟨by kernel_rfl⟩
instance : FO Tryd.prog 29 0 0 1 := ⟨by kernel_rfl, rfl⟩
instance : FT Tryd.prog 29 1 3 := ⟨by kernel_rfl⟩
instance : FO Tryd.prog 29 1 1 1 := ⟨by kernel_rfl, rfl⟩
instance : FT Tryd.prog 29 2 3 := ⟨by kernel_rfl⟩
instance : FO Tryd.prog 29 2 2 1 := ⟨by kernel_rfl, rfl⟩
instance : FT Tryd.prog 29 3 9 := ⟨by kernel_rfl⟩
instance : FO Tryd.prog 29 3 3 1 := ⟨by kernel_rfl, rfl⟩
instance : FT Tryd.prog 29 4 3 := ⟨by kernel_rfl⟩
instance : FO Tryd.prog 29 4 4 1 := ⟨by kernel_rfl, rfl⟩
instance : FT Tryd.prog 29 5 3 := ⟨by kernel_rfl⟩
instance : FO Tryd.prog 29 5 5 1 := ⟨by kernel_rfl, rfl⟩
instance : FT Tryd.prog 29 6 3 := ⟨by kernel_rfl⟩
instance : FO Tryd.prog 29 6 6 1 := ⟨by kernel_rfl, rfl⟩
instance : FT Tryd.prog 29 7 3 := ⟨by kernel_rfl⟩
instance : FO Tryd.prog 29 7 7 1 := ⟨by kernel_rfl, rfl⟩
instance : FT Tryd.prog 29 8 4 := ⟨by kernel_rfl⟩
instance : FO Tryd.prog 29 8 8 1 := ⟨by kernel_rfl, rfl⟩
instance : ZZ Tryd.prog 29 (.agg [.int .i64 0, .int .i64 0, .int .i64 0, .string (ByteArray.mk #[]), .int .i64 0, .int .i64 0, .int .i64 0, .int .i64 0, .bool false].toArray) := ⟨by kernel_rfl⟩
instance : ZV Tryd.prog 29 ([.int .i64 0, .int .i64 0, .int .i64 0, .string (ByteArray.mk #[]), .int .i64 0, .int .i64 0, .int .i64 0, .int .i64 0, .bool false]) := ⟨by kernel_rfl⟩
-- 31: func() (api.Op, api.Errno)
instance : SZ Tryd.prog 31 1 := ⟨by kernel_rfl⟩
instance : BY Tryd.prog 31 8 := ⟨by kernel_rfl⟩
instance : AG Tryd.prog 31 false := ⟨by kernel_rfl⟩
instance : ZV Tryd.prog 31 ([.nilFunc]) := ⟨by kernel_rfl⟩
-- 32: func(int, api.Reply) api.Errno
instance : SZ Tryd.prog 32 1 := ⟨by kernel_rfl⟩
instance : BY Tryd.prog 32 8 := ⟨by kernel_rfl⟩
instance : AG Tryd.prog 32 false := ⟨by kernel_rfl⟩
instance : ZV Tryd.prog 32 ([.nilFunc]) := ⟨by kernel_rfl⟩
-- 34: func() (int, int, bool)
instance : SZ Tryd.prog 34 1 := ⟨by kernel_rfl⟩
instance : BY Tryd.prog 34 8 := ⟨by kernel_rfl⟩
instance : AG Tryd.prog 34 false := ⟨by kernel_rfl⟩
instance : ZV Tryd.prog 34 ([.nilFunc]) := ⟨by kernel_rfl⟩
-- 35: func(int, api.Reply, int) bool
instance : SZ Tryd.prog 35 1 := ⟨by kernel_rfl⟩
instance : BY Tryd.prog 35 8 := ⟨by kernel_rfl⟩
instance : AG Tryd.prog 35 false := ⟨by kernel_rfl⟩
instance : ZV Tryd.prog 35 ([.nilFunc]) := ⟨by kernel_rfl⟩
-- 36: func(int) (api.Op, api.Errno)
instance : SZ Tryd.prog 36 1 := ⟨by kernel_rfl⟩
instance : BY Tryd.prog 36 8 := ⟨by kernel_rfl⟩
instance : AG Tryd.prog 36 false := ⟨by kernel_rfl⟩
instance : ZV Tryd.prog 36 ([.nilFunc]) := ⟨by kernel_rfl⟩
-- 37: []uint8
instance : SZ Tryd.prog 37 1 := ⟨by kernel_rfl⟩
instance : BY Tryd.prog 37 24 := ⟨by kernel_rfl⟩
instance : AG Tryd.prog 37 false := ⟨by kernel_rfl⟩
instance : EL Tryd.prog 37 5 := ⟨by kernel_rfl⟩
instance : NI Tryd.prog 37 := ⟨by kernel_rfl⟩
instance : ZZ Tryd.prog 37 (.slice none 0 0) := ⟨by kernel_rfl⟩
instance : ZV Tryd.prog 37 ([.slice none 0 0]) := ⟨by kernel_rfl⟩
-- 38: struct { Producer int; Epoch int; Txn int; Seq int; Value []
instance : SZ Tryd.prog 38 5 := ⟨by kernel_rfl⟩
instance : BY Tryd.prog 38 56 := ⟨by kernel_rfl⟩
instance : AG Tryd.prog 38 true := ⟨by kernel_rfl⟩
instance : FS Tryd.prog 38 := ⟨by kernel_rfl⟩
instance : FT Tryd.prog 38 0 3 := ⟨by kernel_rfl⟩
instance : FO Tryd.prog 38 0 0 1 := ⟨by kernel_rfl, rfl⟩
instance : FT Tryd.prog 38 1 3 := ⟨by kernel_rfl⟩
instance : FO Tryd.prog 38 1 1 1 := ⟨by kernel_rfl, rfl⟩
instance : FT Tryd.prog 38 2 3 := ⟨by kernel_rfl⟩
instance : FO Tryd.prog 38 2 2 1 := ⟨by kernel_rfl, rfl⟩
instance : FT Tryd.prog 38 3 3 := ⟨by kernel_rfl⟩
instance : FO Tryd.prog 38 3 3 1 := ⟨by kernel_rfl, rfl⟩
instance : FT Tryd.prog 38 4 37 := ⟨by kernel_rfl⟩
instance : FO Tryd.prog 38 4 4 1 := ⟨by kernel_rfl, rfl⟩
instance : ZZ Tryd.prog 38 (.agg [.int .i64 0, .int .i64 0, .int .i64 0, .int .i64 0, .slice none 0 0].toArray) := ⟨by kernel_rfl⟩
instance : ZV Tryd.prog 38 ([.int .i64 0, .int .i64 0, .int .i64 0, .int .i64 0, .slice none 0 0]) := ⟨by kernel_rfl⟩
-- 39: api.Record
instance : SZ Tryd.prog 39 5 := ⟨by kernel_rfl⟩
instance : BY Tryd.prog 39 56 := ⟨by kernel_rfl⟩
instance : AG Tryd.prog 39 true := ⟨by kernel_rfl⟩
instance : FS Tryd.prog 39 := ⟨by kernel_rfl⟩
instance : FT Tryd.prog 39 0 3 := ⟨by kernel_rfl⟩
instance : FO Tryd.prog 39 0 0 1 := ⟨by kernel_rfl, rfl⟩
instance : FT Tryd.prog 39 1 3 := ⟨by kernel_rfl⟩
instance : FO Tryd.prog 39 1 1 1 := ⟨by kernel_rfl, rfl⟩
instance : FT Tryd.prog 39 2 3 := ⟨by kernel_rfl⟩
instance : FO Tryd.prog 39 2 2 1 := ⟨by kernel_rfl, rfl⟩
instance : FT Tryd.prog 39 3 3 := ⟨by kernel_rfl⟩
instance : FO Tryd.prog 39 3 3 1 := ⟨by kernel_rfl, rfl⟩
instance : FT Tryd.prog 39 4 37 := ⟨by kernel_rfl⟩
instance : FO Tryd.prog 39 4 4 1 := ⟨by kernel_rfl, rfl⟩
instance : ZZ Tryd.prog 39 (.agg [.int .i64 0, .int .i64 0, .int .i64 0, .int .i64 0, .slice none 0 0].toArray) := ⟨by kernel_rfl⟩
instance : ZV Tryd.prog 39 ([.int .i64 0, .int .i64 0, .int .i64 0, .int .i64 0, .slice none 0 0]) := ⟨by kernel_rfl⟩
-- 41: func(int, []uint8) (api.Record, api.Errno)
instance : SZ Tryd.prog 41 1 := ⟨by kernel_rfl⟩
instance : BY Tryd.prog 41 8 := ⟨by kernel_rfl⟩
instance : AG Tryd.prog 41 false := ⟨by kernel_rfl⟩
instance : ZV Tryd.prog 41 ([.nilFunc]) := ⟨by kernel_rfl⟩
-- 42: func(int, string, int) bool
instance : SZ Tryd.prog 42 1 := ⟨by kernel_rfl⟩
instance : BY Tryd.prog 42 8 := ⟨by kernel_rfl⟩
instance : AG Tryd.prog 42 false := ⟨by kernel_rfl⟩
instance : ZV Tryd.prog 42 ([.nilFunc]) := ⟨by kernel_rfl⟩
-- 43: func(bool) (api.Op, api.Errno)
instance : SZ Tryd.prog 43 1 := ⟨by kernel_rfl⟩
instance : BY Tryd.prog 43 8 := ⟨by kernel_rfl⟩
instance : AG Tryd.prog 43 false := ⟨by kernel_rfl⟩
instance : ZV Tryd.prog 43 ([.nilFunc]) := ⟨by kernel_rfl⟩
-- 44: func() int
instance : SZ Tryd.prog 44 1 := ⟨by kernel_rfl⟩
instance : BY Tryd.prog 44 8 := ⟨by kernel_rfl⟩
instance : AG Tryd.prog 44 false := ⟨by kernel_rfl⟩
instance : ZV Tryd.prog 44 ([.nilFunc]) := ⟨by kernel_rfl⟩
-- 45: func(int, bool) bool
instance : SZ Tryd.prog 45 1 := ⟨by kernel_rfl⟩
instance : BY Tryd.prog 45 8 := ⟨by kernel_rfl⟩
instance : AG Tryd.prog 45 false := ⟨by kernel_rfl⟩
instance : ZV Tryd.prog 45 ([.nilFunc]) := ⟨by kernel_rfl⟩
-- 46: []seneschallaw16.Act
instance : SZ Tryd.prog 46 1 := ⟨by kernel_rfl⟩
instance : BY Tryd.prog 46 24 := ⟨by kernel_rfl⟩
instance : AG Tryd.prog 46 false := ⟨by kernel_rfl⟩
instance : EL Tryd.prog 46 53 := ⟨by kernel_rfl⟩
instance : NI Tryd.prog 46 := ⟨by kernel_rfl⟩
instance : ZZ Tryd.prog 46 (.slice none 0 0) := ⟨by kernel_rfl⟩
instance : ZV Tryd.prog 46 ([.slice none 0 0]) := ⟨by kernel_rfl⟩
-- 47: func([]seneschallaw16.Act) bool
instance : SZ Tryd.prog 47 1 := ⟨by kernel_rfl⟩
instance : BY Tryd.prog 47 8 := ⟨by kernel_rfl⟩
instance : AG Tryd.prog 47 false := ⟨by kernel_rfl⟩
instance : ZV Tryd.prog 47 ([.nilFunc]) := ⟨by kernel_rfl⟩
-- 48: *seneschalref16.Client
instance : SZ Tryd.prog 48 1 := ⟨by kernel_rfl⟩
instance : BY Tryd.prog 48 8 := ⟨by kernel_rfl⟩
instance : AG Tryd.prog 48 false := ⟨by kernel_rfl⟩
instance : PT Tryd.prog 48 63 := ⟨by kernel_rfl⟩
instance : ZZ Tryd.prog 48 (.pointer none) := ⟨by kernel_rfl⟩
instance : ZV Tryd.prog 48 ([.pointer none]) := ⟨by kernel_rfl⟩
-- 49: func(int, string) *seneschalref16.Client
instance : SZ Tryd.prog 49 1 := ⟨by kernel_rfl⟩
instance : BY Tryd.prog 49 8 := ⟨by kernel_rfl⟩
instance : AG Tryd.prog 49 false := ⟨by kernel_rfl⟩
instance : ZV Tryd.prog 49 ([.nilFunc]) := ⟨by kernel_rfl⟩
-- 51: func(*client.Client, *seneschalref16.Client, seneschallaw16.
instance : SZ Tryd.prog 51 1 := ⟨by kernel_rfl⟩
instance : BY Tryd.prog 51 8 := ⟨by kernel_rfl⟩
instance : AG Tryd.prog 51 false := ⟨by kernel_rfl⟩
instance : ZV Tryd.prog 51 ([.nilFunc]) := ⟨by kernel_rfl⟩
-- 52: struct { Kind int; N int; R api.Reply; Value []uint8; Commit
instance : SZ Tryd.prog 52 7 := ⟨by kernel_rfl⟩
instance : BY Tryd.prog 52 72 := ⟨by kernel_rfl⟩
instance : AG Tryd.prog 52 true := ⟨by kernel_rfl⟩
instance : FS Tryd.prog 52 := ⟨by kernel_rfl⟩
instance : FT Tryd.prog 52 0 3 := ⟨by kernel_rfl⟩
instance : FO Tryd.prog 52 0 0 1 := ⟨by kernel_rfl, rfl⟩
instance : FT Tryd.prog 52 1 3 := ⟨by kernel_rfl⟩
instance : FO Tryd.prog 52 1 1 1 := ⟨by kernel_rfl, rfl⟩
instance : FT Tryd.prog 52 2 24 := ⟨by kernel_rfl⟩
instance : FO Tryd.prog 52 2 2 3 := ⟨by kernel_rfl, rfl⟩
instance : FT Tryd.prog 52 3 37 := ⟨by kernel_rfl⟩
instance : FO Tryd.prog 52 3 5 1 := ⟨by kernel_rfl, rfl⟩
instance : FT Tryd.prog 52 4 4 := ⟨by kernel_rfl⟩
instance : FO Tryd.prog 52 4 6 1 := ⟨by kernel_rfl, rfl⟩
instance : ZZ Tryd.prog 52 (.agg [.int .i64 0, .int .i64 0, .int .i64 0, .int .i64 0, .int .i64 0, .slice none 0 0, .bool false].toArray) := ⟨by kernel_rfl⟩
instance : ZV Tryd.prog 52 ([.int .i64 0, .int .i64 0, .int .i64 0, .int .i64 0, .int .i64 0, .slice none 0 0, .bool false]) := ⟨by kernel_rfl⟩
-- 53: seneschallaw16.Act
instance : SZ Tryd.prog 53 7 := ⟨by kernel_rfl⟩
instance : BY Tryd.prog 53 72 := ⟨by kernel_rfl⟩
instance : AG Tryd.prog 53 true := ⟨by kernel_rfl⟩
instance : FS Tryd.prog 53 := ⟨by kernel_rfl⟩
instance : FT Tryd.prog 53 0 3 := ⟨by kernel_rfl⟩
instance : FO Tryd.prog 53 0 0 1 := ⟨by kernel_rfl, rfl⟩
instance : FT Tryd.prog 53 1 3 := ⟨by kernel_rfl⟩
instance : FO Tryd.prog 53 1 1 1 := ⟨by kernel_rfl, rfl⟩
instance : FT Tryd.prog 53 2 24 := ⟨by kernel_rfl⟩
instance : FO Tryd.prog 53 2 2 3 := ⟨by kernel_rfl, rfl⟩
instance : FT Tryd.prog 53 3 37 := ⟨by kernel_rfl⟩
instance : FO Tryd.prog 53 3 5 1 := ⟨by kernel_rfl, rfl⟩
instance : FT Tryd.prog 53 4 4 := ⟨by kernel_rfl⟩
instance : FO Tryd.prog 53 4 6 1 := ⟨by kernel_rfl, rfl⟩
instance : ZZ Tryd.prog 53 (.agg [.int .i64 0, .int .i64 0, .int .i64 0, .int .i64 0, .int .i64 0, .slice none 0 0, .bool false].toArray) := ⟨by kernel_rfl⟩
instance : ZV Tryd.prog 53 ([.int .i64 0, .int .i64 0, .int .i64 0, .int .i64 0, .int .i64 0, .slice none 0 0, .bool false]) := ⟨by kernel_rfl⟩
-- 54: [][]uint8
instance : SZ Tryd.prog 54 1 := ⟨by kernel_rfl⟩
instance : BY Tryd.prog 54 24 := ⟨by kernel_rfl⟩
instance : AG Tryd.prog 54 false := ⟨by kernel_rfl⟩
instance : EL Tryd.prog 54 37 := ⟨by kernel_rfl⟩
instance : NI Tryd.prog 54 := ⟨by kernel_rfl⟩
instance : ZZ Tryd.prog 54 (.slice none 0 0) := ⟨by kernel_rfl⟩
instance : ZV Tryd.prog 54 ([.slice none 0 0]) := ⟨by kernel_rfl⟩
-- 55: []bool
instance : SZ Tryd.prog 55 1 := ⟨by kernel_rfl⟩
instance : BY Tryd.prog 55 24 := ⟨by kernel_rfl⟩
instance : AG Tryd.prog 55 false := ⟨by kernel_rfl⟩
instance : EL Tryd.prog 55 4 := ⟨by kernel_rfl⟩
instance : NI Tryd.prog 55 := ⟨by kernel_rfl⟩
instance : ZZ Tryd.prog 55 (.slice none 0 0) := ⟨by kernel_rfl⟩
instance : ZV Tryd.prog 55 ([.slice none 0 0]) := ⟨by kernel_rfl⟩
-- 56: func(api.Record, api.Record) bool
instance : SZ Tryd.prog 56 1 := ⟨by kernel_rfl⟩
instance : BY Tryd.prog 56 8 := ⟨by kernel_rfl⟩
instance : AG Tryd.prog 56 false := ⟨by kernel_rfl⟩
instance : ZV Tryd.prog 56 ([.nilFunc]) := ⟨by kernel_rfl⟩
-- 57: func(int) api.Errno
instance : SZ Tryd.prog 57 1 := ⟨by kernel_rfl⟩
instance : BY Tryd.prog 57 8 := ⟨by kernel_rfl⟩
instance : AG Tryd.prog 57 false := ⟨by kernel_rfl⟩
instance : ZV Tryd.prog 57 ([.nilFunc]) := ⟨by kernel_rfl⟩
-- 58: func([][]uint8, []bool) bool
instance : SZ Tryd.prog 58 1 := ⟨by kernel_rfl⟩
instance : BY Tryd.prog 58 8 := ⟨by kernel_rfl⟩
instance : AG Tryd.prog 58 false := ⟨by kernel_rfl⟩
instance : ZV Tryd.prog 58 ([.nilFunc]) := ⟨by kernel_rfl⟩
-- 59: struct { begun bool; next int; out bool; r api.Record }
instance : SZ Tryd.prog 59 8 := ⟨by kernel_rfl⟩
instance : BY Tryd.prog 59 80 := ⟨by kernel_rfl⟩
instance : AG Tryd.prog 59 true := ⟨by kernel_rfl⟩
instance : FS Tryd.prog 59 := ⟨by kernel_rfl⟩
instance : FT Tryd.prog 59 0 4 := ⟨by kernel_rfl⟩
instance : FO Tryd.prog 59 0 0 1 := ⟨by kernel_rfl, rfl⟩
instance : FT Tryd.prog 59 1 3 := ⟨by kernel_rfl⟩
instance : FO Tryd.prog 59 1 1 1 := ⟨by kernel_rfl, rfl⟩
instance : FT Tryd.prog 59 2 4 := ⟨by kernel_rfl⟩
instance : FO Tryd.prog 59 2 2 1 := ⟨by kernel_rfl, rfl⟩
instance : FT Tryd.prog 59 3 39 := ⟨by kernel_rfl⟩
instance : FO Tryd.prog 59 3 3 5 := ⟨by kernel_rfl, rfl⟩
instance : ZZ Tryd.prog 59 (.agg [.bool false, .int .i64 0, .bool false, .int .i64 0, .int .i64 0, .int .i64 0, .int .i64 0, .slice none 0 0].toArray) := ⟨by kernel_rfl⟩
instance : ZV Tryd.prog 59 ([.bool false, .int .i64 0, .bool false, .int .i64 0, .int .i64 0, .int .i64 0, .int .i64 0, .slice none 0 0]) := ⟨by kernel_rfl⟩
-- 60: seneschalref16.part
instance : SZ Tryd.prog 60 8 := ⟨by kernel_rfl⟩
instance : BY Tryd.prog 60 80 := ⟨by kernel_rfl⟩
instance : AG Tryd.prog 60 true := ⟨by kernel_rfl⟩
instance : FS Tryd.prog 60 := ⟨by kernel_rfl⟩
instance : FT Tryd.prog 60 0 4 := ⟨by kernel_rfl⟩
instance : FO Tryd.prog 60 0 0 1 := ⟨by kernel_rfl, rfl⟩
instance : FT Tryd.prog 60 1 3 := ⟨by kernel_rfl⟩
instance : FO Tryd.prog 60 1 1 1 := ⟨by kernel_rfl, rfl⟩
instance : FT Tryd.prog 60 2 4 := ⟨by kernel_rfl⟩
instance : FO Tryd.prog 60 2 2 1 := ⟨by kernel_rfl, rfl⟩
instance : FT Tryd.prog 60 3 39 := ⟨by kernel_rfl⟩
instance : FO Tryd.prog 60 3 3 5 := ⟨by kernel_rfl, rfl⟩
instance : ZZ Tryd.prog 60 (.agg [.bool false, .int .i64 0, .bool false, .int .i64 0, .int .i64 0, .int .i64 0, .int .i64 0, .slice none 0 0].toArray) := ⟨by kernel_rfl⟩
instance : ZV Tryd.prog 60 ([.bool false, .int .i64 0, .bool false, .int .i64 0, .int .i64 0, .int .i64 0, .int .i64 0, .slice none 0 0]) := ⟨by kernel_rfl⟩
-- 61: [4]seneschalref16.part
instance : SZ Tryd.prog 61 32 := ⟨by kernel_rfl⟩
instance : BY Tryd.prog 61 320 := ⟨by kernel_rfl⟩
instance : AG Tryd.prog 61 true := ⟨by kernel_rfl⟩
instance : AR Tryd.prog 61 4 60 := ⟨by kernel_rfl⟩
instance : ZV Tryd.prog 61 ([.bool false, .int .i64 0, .bool false, .int .i64 0, .int .i64 0, .int .i64 0, .int .i64 0, .slice none 0 0, .bool false, .int .i64 0, .bool false, .int .i64 0, .int .i64 0, .int .i64 0, .int .i64 0, .slice none 0 0, .bool false, .int .i64 0, .bool false, .int .i64 0, .int .i64 0, .int .i64 0, .int .i64 0, .slice none 0 0, .bool false, .int .i64 0, .bool false, .int .i64 0, .int .i64 0, .int .i64 0, .int .i64 0, .slice none 0 0]) := ⟨by kernel_rfl⟩
-- 62: struct { N int; Name string; seq int; init int; Prod int; Ep
instance : SZ Tryd.prog 62 41 := ⟨by kernel_rfl⟩
instance : BY Tryd.prog 62 400 := ⟨by kernel_rfl⟩
instance : AG Tryd.prog 62 true := ⟨by kernel_rfl⟩
instance : FS Tryd.prog 62 := ⟨by kernel_rfl⟩
instance : FT Tryd.prog 62 0 3 := ⟨by kernel_rfl⟩
instance : FO Tryd.prog 62 0 0 1 := ⟨by kernel_rfl, rfl⟩
instance : FT Tryd.prog 62 1 9 := ⟨by kernel_rfl⟩
instance : FO Tryd.prog 62 1 1 1 := ⟨by kernel_rfl, rfl⟩
instance : FT Tryd.prog 62 2 3 := ⟨by kernel_rfl⟩
instance : FO Tryd.prog 62 2 2 1 := ⟨by kernel_rfl, rfl⟩
instance : FT Tryd.prog 62 3 3 := ⟨by kernel_rfl⟩
instance : FO Tryd.prog 62 3 3 1 := ⟨by kernel_rfl, rfl⟩
instance : FT Tryd.prog 62 4 3 := ⟨by kernel_rfl⟩
instance : FO Tryd.prog 62 4 4 1 := ⟨by kernel_rfl, rfl⟩
instance : FT Tryd.prog 62 5 3 := ⟨by kernel_rfl⟩
instance : FO Tryd.prog 62 5 5 1 := ⟨by kernel_rfl, rfl⟩
instance : FT Tryd.prog 62 6 4 := ⟨by kernel_rfl⟩
instance : FO Tryd.prog 62 6 6 1 := ⟨by kernel_rfl, rfl⟩
instance : FT Tryd.prog 62 7 3 := ⟨by kernel_rfl⟩
instance : FO Tryd.prog 62 7 7 1 := ⟨by kernel_rfl, rfl⟩
instance : FT Tryd.prog 62 8 4 := ⟨by kernel_rfl⟩
instance : FO Tryd.prog 62 8 8 1 := ⟨by kernel_rfl, rfl⟩
instance : FT Tryd.prog 62 9 61 := ⟨by kernel_rfl⟩
instance : FO Tryd.prog 62 9 9 32 := ⟨by kernel_rfl, rfl⟩
instance : ZZ Tryd.prog 62 (.agg [.int .i64 0, .string (ByteArray.mk #[]), .int .i64 0, .int .i64 0, .int .i64 0, .int .i64 0, .bool false, .int .i64 0, .bool false, .bool false, .int .i64 0, .bool false, .int .i64 0, .int .i64 0, .int .i64 0, .int .i64 0, .slice none 0 0, .bool false, .int .i64 0, .bool false, .int .i64 0, .int .i64 0, .int .i64 0, .int .i64 0, .slice none 0 0, .bool false, .int .i64 0, .bool false, .int .i64 0, .int .i64 0, .int .i64 0, .int .i64 0, .slice none 0 0, .bool false, .int .i64 0, .bool false, .int .i64 0, .int .i64 0, .int .i64 0, .int .i64 0, .slice none 0 0].toArray) := ⟨by kernel_rfl⟩
instance : ZV Tryd.prog 62 ([.int .i64 0, .string (ByteArray.mk #[]), .int .i64 0, .int .i64 0, .int .i64 0, .int .i64 0, .bool false, .int .i64 0, .bool false, .bool false, .int .i64 0, .bool false, .int .i64 0, .int .i64 0, .int .i64 0, .int .i64 0, .slice none 0 0, .bool false, .int .i64 0, .bool false, .int .i64 0, .int .i64 0, .int .i64 0, .int .i64 0, .slice none 0 0, .bool false, .int .i64 0, .bool false, .int .i64 0, .int .i64 0, .int .i64 0, .int .i64 0, .slice none 0 0, .bool false, .int .i64 0, .bool false, .int .i64 0, .int .i64 0, .int .i64 0, .int .i64 0, .slice none 0 0]) := ⟨by kernel_rfl⟩
-- 63: seneschalref16.Client
instance : SZ Tryd.prog 63 41 := ⟨by kernel_rfl⟩
instance : BY Tryd.prog 63 400 := ⟨by kernel_rfl⟩
instance : AG Tryd.prog 63 true := ⟨by kernel_rfl⟩
instance : FS Tryd.prog 63 := ⟨by kernel_rfl⟩
instance : FT Tryd.prog 63 0 3 := ⟨by kernel_rfl⟩
instance : FO Tryd.prog 63 0 0 1 := ⟨by kernel_rfl, rfl⟩
instance : FT Tryd.prog 63 1 9 := ⟨by kernel_rfl⟩
instance : FO Tryd.prog 63 1 1 1 := ⟨by kernel_rfl, rfl⟩
instance : FT Tryd.prog 63 2 3 := ⟨by kernel_rfl⟩
instance : FO Tryd.prog 63 2 2 1 := ⟨by kernel_rfl, rfl⟩
instance : FT Tryd.prog 63 3 3 := ⟨by kernel_rfl⟩
instance : FO Tryd.prog 63 3 3 1 := ⟨by kernel_rfl, rfl⟩
instance : FT Tryd.prog 63 4 3 := ⟨by kernel_rfl⟩
instance : FO Tryd.prog 63 4 4 1 := ⟨by kernel_rfl, rfl⟩
instance : FT Tryd.prog 63 5 3 := ⟨by kernel_rfl⟩
instance : FO Tryd.prog 63 5 5 1 := ⟨by kernel_rfl, rfl⟩
instance : FT Tryd.prog 63 6 4 := ⟨by kernel_rfl⟩
instance : FO Tryd.prog 63 6 6 1 := ⟨by kernel_rfl, rfl⟩
instance : FT Tryd.prog 63 7 3 := ⟨by kernel_rfl⟩
instance : FO Tryd.prog 63 7 7 1 := ⟨by kernel_rfl, rfl⟩
instance : FT Tryd.prog 63 8 4 := ⟨by kernel_rfl⟩
instance : FO Tryd.prog 63 8 8 1 := ⟨by kernel_rfl, rfl⟩
instance : FT Tryd.prog 63 9 61 := ⟨by kernel_rfl⟩
instance : FO Tryd.prog 63 9 9 32 := ⟨by kernel_rfl, rfl⟩
instance : ZZ Tryd.prog 63 (.agg [.int .i64 0, .string (ByteArray.mk #[]), .int .i64 0, .int .i64 0, .int .i64 0, .int .i64 0, .bool false, .int .i64 0, .bool false, .bool false, .int .i64 0, .bool false, .int .i64 0, .int .i64 0, .int .i64 0, .int .i64 0, .slice none 0 0, .bool false, .int .i64 0, .bool false, .int .i64 0, .int .i64 0, .int .i64 0, .int .i64 0, .slice none 0 0, .bool false, .int .i64 0, .bool false, .int .i64 0, .int .i64 0, .int .i64 0, .int .i64 0, .slice none 0 0, .bool false, .int .i64 0, .bool false, .int .i64 0, .int .i64 0, .int .i64 0, .int .i64 0, .slice none 0 0].toArray) := ⟨by kernel_rfl⟩
instance : ZV Tryd.prog 63 ([.int .i64 0, .string (ByteArray.mk #[]), .int .i64 0, .int .i64 0, .int .i64 0, .int .i64 0, .bool false, .int .i64 0, .bool false, .bool false, .int .i64 0, .bool false, .int .i64 0, .int .i64 0, .int .i64 0, .int .i64 0, .slice none 0 0, .bool false, .int .i64 0, .bool false, .int .i64 0, .int .i64 0, .int .i64 0, .int .i64 0, .slice none 0 0, .bool false, .int .i64 0, .bool false, .int .i64 0, .int .i64 0, .int .i64 0, .int .i64 0, .slice none 0 0, .bool false, .int .i64 0, .bool false, .int .i64 0, .int .i64 0, .int .i64 0, .int .i64 0, .slice none 0 0]) := ⟨by kernel_rfl⟩
-- 64: func(int, string, []seneschallaw16.Act) bool
instance : SZ Tryd.prog 64 1 := ⟨by kernel_rfl⟩
instance : BY Tryd.prog 64 8 := ⟨by kernel_rfl⟩
instance : AG Tryd.prog 64 false := ⟨by kernel_rfl⟩
instance : ZV Tryd.prog 64 ([.nilFunc]) := ⟨by kernel_rfl⟩
-- 65: func(int, []uint8) bool
instance : SZ Tryd.prog 65 1 := ⟨by kernel_rfl⟩
instance : BY Tryd.prog 65 8 := ⟨by kernel_rfl⟩
instance : AG Tryd.prog 65 false := ⟨by kernel_rfl⟩
instance : ZV Tryd.prog 65 ([.nilFunc]) := ⟨by kernel_rfl⟩
-- 66: *hold.Table[*seneschal/client.part]
instance : SZ Tryd.prog 66 1 := ⟨by kernel_rfl⟩
instance : BY Tryd.prog 66 8 := ⟨by kernel_rfl⟩
instance : AG Tryd.prog 66 false := ⟨by kernel_rfl⟩
instance : PT Tryd.prog 66 98 := ⟨by kernel_rfl⟩
instance : ZZ Tryd.prog 66 (.pointer none) := ⟨by kernel_rfl⟩
instance : ZV Tryd.prog 66 ([.pointer none]) := ⟨by kernel_rfl⟩
-- 67: struct { number int; name string; next int; asked int; known
instance : SZ Tryd.prog 67 10 := ⟨by kernel_rfl⟩
instance : BY Tryd.prog 67 88 := ⟨by kernel_rfl⟩
instance : AG Tryd.prog 67 true := ⟨by kernel_rfl⟩
instance : FS Tryd.prog 67 := ⟨by kernel_rfl⟩
instance : FT Tryd.prog 67 0 3 := ⟨by kernel_rfl⟩
instance : FO Tryd.prog 67 0 0 1 := ⟨by kernel_rfl, rfl⟩
instance : FT Tryd.prog 67 1 9 := ⟨by kernel_rfl⟩
instance : FO Tryd.prog 67 1 1 1 := ⟨by kernel_rfl, rfl⟩
instance : FT Tryd.prog 67 2 3 := ⟨by kernel_rfl⟩
instance : FO Tryd.prog 67 2 2 1 := ⟨by kernel_rfl, rfl⟩
instance : FT Tryd.prog 67 3 3 := ⟨by kernel_rfl⟩
instance : FO Tryd.prog 67 3 3 1 := ⟨by kernel_rfl, rfl⟩
instance : FT Tryd.prog 67 4 4 := ⟨by kernel_rfl⟩
instance : FO Tryd.prog 67 4 4 1 := ⟨by kernel_rfl, rfl⟩
instance : FT Tryd.prog 67 5 3 := ⟨by kernel_rfl⟩
instance : FO Tryd.prog 67 5 5 1 := ⟨by kernel_rfl, rfl⟩
instance : FT Tryd.prog 67 6 3 := ⟨by kernel_rfl⟩
instance : FO Tryd.prog 67 6 6 1 := ⟨by kernel_rfl, rfl⟩
instance : FT Tryd.prog 67 7 3 := ⟨by kernel_rfl⟩
instance : FO Tryd.prog 67 7 7 1 := ⟨by kernel_rfl, rfl⟩
instance : FT Tryd.prog 67 8 4 := ⟨by kernel_rfl⟩
instance : FO Tryd.prog 67 8 8 1 := ⟨by kernel_rfl, rfl⟩
instance : FT Tryd.prog 67 9 66 := ⟨by kernel_rfl⟩
instance : FO Tryd.prog 67 9 9 1 := ⟨by kernel_rfl, rfl⟩
instance : ZZ Tryd.prog 67 (.agg [.int .i64 0, .string (ByteArray.mk #[]), .int .i64 0, .int .i64 0, .bool false, .int .i64 0, .int .i64 0, .int .i64 0, .bool false, .pointer none].toArray) := ⟨by kernel_rfl⟩
instance : ZV Tryd.prog 67 ([.int .i64 0, .string (ByteArray.mk #[]), .int .i64 0, .int .i64 0, .bool false, .int .i64 0, .int .i64 0, .int .i64 0, .bool false, .pointer none]) := ⟨by kernel_rfl⟩
-- 68: client.Client
instance : SZ Tryd.prog 68 10 := ⟨by kernel_rfl⟩
instance : BY Tryd.prog 68 88 := ⟨by kernel_rfl⟩
instance : AG Tryd.prog 68 true := ⟨by kernel_rfl⟩
instance : FS Tryd.prog 68 := ⟨by kernel_rfl⟩
instance : FT Tryd.prog 68 0 3 := ⟨by kernel_rfl⟩
instance : FO Tryd.prog 68 0 0 1 := ⟨by kernel_rfl, rfl⟩
instance : FT Tryd.prog 68 1 9 := ⟨by kernel_rfl⟩
instance : FO Tryd.prog 68 1 1 1 := ⟨by kernel_rfl, rfl⟩
instance : FT Tryd.prog 68 2 3 := ⟨by kernel_rfl⟩
instance : FO Tryd.prog 68 2 2 1 := ⟨by kernel_rfl, rfl⟩
instance : FT Tryd.prog 68 3 3 := ⟨by kernel_rfl⟩
instance : FO Tryd.prog 68 3 3 1 := ⟨by kernel_rfl, rfl⟩
instance : FT Tryd.prog 68 4 4 := ⟨by kernel_rfl⟩
instance : FO Tryd.prog 68 4 4 1 := ⟨by kernel_rfl, rfl⟩
instance : FT Tryd.prog 68 5 3 := ⟨by kernel_rfl⟩
instance : FO Tryd.prog 68 5 5 1 := ⟨by kernel_rfl, rfl⟩
instance : FT Tryd.prog 68 6 3 := ⟨by kernel_rfl⟩
instance : FO Tryd.prog 68 6 6 1 := ⟨by kernel_rfl, rfl⟩
instance : FT Tryd.prog 68 7 3 := ⟨by kernel_rfl⟩
instance : FO Tryd.prog 68 7 7 1 := ⟨by kernel_rfl, rfl⟩
instance : FT Tryd.prog 68 8 4 := ⟨by kernel_rfl⟩
instance : FO Tryd.prog 68 8 8 1 := ⟨by kernel_rfl, rfl⟩
instance : FT Tryd.prog 68 9 66 := ⟨by kernel_rfl⟩
instance : FO Tryd.prog 68 9 9 1 := ⟨by kernel_rfl, rfl⟩
instance : ZZ Tryd.prog 68 (.agg [.int .i64 0, .string (ByteArray.mk #[]), .int .i64 0, .int .i64 0, .bool false, .int .i64 0, .int .i64 0, .int .i64 0, .bool false, .pointer none].toArray) := ⟨by kernel_rfl⟩
instance : ZV Tryd.prog 68 ([.int .i64 0, .string (ByteArray.mk #[]), .int .i64 0, .int .i64 0, .bool false, .int .i64 0, .int .i64 0, .int .i64 0, .bool false, .pointer none]) := ⟨by kernel_rfl⟩
-- 69: func(string, string) string
instance : SZ Tryd.prog 69 1 := ⟨by kernel_rfl⟩
instance : BY Tryd.prog 69 8 := ⟨by kernel_rfl⟩
instance : AG Tryd.prog 69 false := ⟨by kernel_rfl⟩
instance : ZV Tryd.prog 69 ([.nilFunc]) := ⟨by kernel_rfl⟩
-- 70: func(api.Op) (api.Op, api.Errno)
instance : SZ Tryd.prog 70 1 := ⟨by kernel_rfl⟩
instance : BY Tryd.prog 70 8 := ⟨by kernel_rfl⟩
instance : AG Tryd.prog 70 false := ⟨by kernel_rfl⟩
instance : ZV Tryd.prog 70 ([.nilFunc]) := ⟨by kernel_rfl⟩
-- 71: *client.part
instance : SZ Tryd.prog 71 1 := ⟨by kernel_rfl⟩
instance : BY Tryd.prog 71 8 := ⟨by kernel_rfl⟩
instance : AG Tryd.prog 71 false := ⟨by kernel_rfl⟩
instance : PT Tryd.prog 71 76 := ⟨by kernel_rfl⟩
instance : ZZ Tryd.prog 71 (.pointer none) := ⟨by kernel_rfl⟩
instance : ZV Tryd.prog 71 ([.pointer none]) := ⟨by kernel_rfl⟩
-- 73: func(int) (*client.part, bool)
instance : SZ Tryd.prog 73 1 := ⟨by kernel_rfl⟩
instance : BY Tryd.prog 73 8 := ⟨by kernel_rfl⟩
instance : AG Tryd.prog 73 false := ⟨by kernel_rfl⟩
instance : ZV Tryd.prog 73 ([.nilFunc]) := ⟨by kernel_rfl⟩
-- 74: *api.Record
instance : SZ Tryd.prog 74 1 := ⟨by kernel_rfl⟩
instance : BY Tryd.prog 74 8 := ⟨by kernel_rfl⟩
instance : AG Tryd.prog 74 false := ⟨by kernel_rfl⟩
instance : PT Tryd.prog 74 39 := ⟨by kernel_rfl⟩
instance : ZZ Tryd.prog 74 (.pointer none) := ⟨by kernel_rfl⟩
instance : ZV Tryd.prog 74 ([.pointer none]) := ⟨by kernel_rfl⟩
-- 75: struct { begun int; next int; out *api.Record }
instance : SZ Tryd.prog 75 3 := ⟨by kernel_rfl⟩
instance : BY Tryd.prog 75 24 := ⟨by kernel_rfl⟩
instance : AG Tryd.prog 75 true := ⟨by kernel_rfl⟩
instance : FS Tryd.prog 75 := ⟨by kernel_rfl⟩
instance : FT Tryd.prog 75 0 3 := ⟨by kernel_rfl⟩
instance : FO Tryd.prog 75 0 0 1 := ⟨by kernel_rfl, rfl⟩
instance : FT Tryd.prog 75 1 3 := ⟨by kernel_rfl⟩
instance : FO Tryd.prog 75 1 1 1 := ⟨by kernel_rfl, rfl⟩
instance : FT Tryd.prog 75 2 74 := ⟨by kernel_rfl⟩
instance : FO Tryd.prog 75 2 2 1 := ⟨by kernel_rfl, rfl⟩
instance : ZZ Tryd.prog 75 (.agg [.int .i64 0, .int .i64 0, .pointer none].toArray) := ⟨by kernel_rfl⟩
instance : ZV Tryd.prog 75 ([.int .i64 0, .int .i64 0, .pointer none]) := ⟨by kernel_rfl⟩
-- 76: client.part
instance : SZ Tryd.prog 76 3 := ⟨by kernel_rfl⟩
instance : BY Tryd.prog 76 24 := ⟨by kernel_rfl⟩
instance : AG Tryd.prog 76 true := ⟨by kernel_rfl⟩
instance : FS Tryd.prog 76 := ⟨by kernel_rfl⟩
instance : FT Tryd.prog 76 0 3 := ⟨by kernel_rfl⟩
instance : FO Tryd.prog 76 0 0 1 := ⟨by kernel_rfl, rfl⟩
instance : FT Tryd.prog 76 1 3 := ⟨by kernel_rfl⟩
instance : FO Tryd.prog 76 1 1 1 := ⟨by kernel_rfl, rfl⟩
instance : FT Tryd.prog 76 2 74 := ⟨by kernel_rfl⟩
instance : FO Tryd.prog 76 2 2 1 := ⟨by kernel_rfl, rfl⟩
instance : ZZ Tryd.prog 76 (.agg [.int .i64 0, .int .i64 0, .pointer none].toArray) := ⟨by kernel_rfl⟩
instance : ZV Tryd.prog 76 ([.int .i64 0, .int .i64 0, .pointer none]) := ⟨by kernel_rfl⟩
-- 77: func(api.Record) api.Record
instance : SZ Tryd.prog 77 1 := ⟨by kernel_rfl⟩
instance : BY Tryd.prog 77 8 := ⟨by kernel_rfl⟩
instance : AG Tryd.prog 77 false := ⟨by kernel_rfl⟩
instance : ZV Tryd.prog 77 ([.nilFunc]) := ⟨by kernel_rfl⟩
-- 78: func([]uint8) []uint8
instance : SZ Tryd.prog 78 1 := ⟨by kernel_rfl⟩
instance : BY Tryd.prog 78 8 := ⟨by kernel_rfl⟩
instance : AG Tryd.prog 78 false := ⟨by kernel_rfl⟩
instance : ZV Tryd.prog 78 ([.nilFunc]) := ⟨by kernel_rfl⟩
-- 80: func() (api.Op, int)
instance : SZ Tryd.prog 80 1 := ⟨by kernel_rfl⟩
instance : BY Tryd.prog 80 8 := ⟨by kernel_rfl⟩
instance : AG Tryd.prog 80 false := ⟨by kernel_rfl⟩
instance : ZV Tryd.prog 80 ([.nilFunc]) := ⟨by kernel_rfl⟩
-- 81: func(int, api.Reply) int
instance : SZ Tryd.prog 81 1 := ⟨by kernel_rfl⟩
instance : BY Tryd.prog 81 8 := ⟨by kernel_rfl⟩
instance : AG Tryd.prog 81 false := ⟨by kernel_rfl⟩
instance : ZV Tryd.prog 81 ([.nilFunc]) := ⟨by kernel_rfl⟩
-- 82: func(int) (api.Op, int)
instance : SZ Tryd.prog 82 1 := ⟨by kernel_rfl⟩
instance : BY Tryd.prog 82 8 := ⟨by kernel_rfl⟩
instance : AG Tryd.prog 82 false := ⟨by kernel_rfl⟩
instance : ZV Tryd.prog 82 ([.nilFunc]) := ⟨by kernel_rfl⟩
-- 84: func(int, []uint8) (api.Record, int)
instance : SZ Tryd.prog 84 1 := ⟨by kernel_rfl⟩
instance : BY Tryd.prog 84 8 := ⟨by kernel_rfl⟩
instance : AG Tryd.prog 84 false := ⟨by kernel_rfl⟩
instance : ZV Tryd.prog 84 ([.nilFunc]) := ⟨by kernel_rfl⟩
-- 85: func(int) int
instance : SZ Tryd.prog 85 1 := ⟨by kernel_rfl⟩
instance : BY Tryd.prog 85 8 := ⟨by kernel_rfl⟩
instance : AG Tryd.prog 85 false := ⟨by kernel_rfl⟩
instance : ZV Tryd.prog 85 ([.nilFunc]) := ⟨by kernel_rfl⟩
-- 86: func(bool) (api.Op, int)
instance : SZ Tryd.prog 86 1 := ⟨by kernel_rfl⟩
instance : BY Tryd.prog 86 8 := ⟨by kernel_rfl⟩
instance : AG Tryd.prog 86 false := ⟨by kernel_rfl⟩
instance : ZV Tryd.prog 86 ([.nilFunc]) := ⟨by kernel_rfl⟩
-- 87: func() *hold.Table[*seneschal/client.part]
instance : SZ Tryd.prog 87 1 := ⟨by kernel_rfl⟩
instance : BY Tryd.prog 87 8 := ⟨by kernel_rfl⟩
instance : AG Tryd.prog 87 false := ⟨by kernel_rfl⟩
instance : ZV Tryd.prog 87 ([.nilFunc]) := ⟨by kernel_rfl⟩
-- 88: func(int, *client.part)
instance : SZ Tryd.prog 88 1 := ⟨by kernel_rfl⟩
instance : BY Tryd.prog 88 8 := ⟨by kernel_rfl⟩
instance : AG Tryd.prog 88 false := ⟨by kernel_rfl⟩
instance : ZV Tryd.prog 88 ([.nilFunc]) := ⟨by kernel_rfl⟩
-- 89: func(string, uint8) string
instance : SZ Tryd.prog 89 1 := ⟨by kernel_rfl⟩
instance : BY Tryd.prog 89 8 := ⟨by kernel_rfl⟩
instance : AG Tryd.prog 89 false := ⟨by kernel_rfl⟩
instance : ZV Tryd.prog 89 ([.nilFunc]) := ⟨by kernel_rfl⟩
-- 90: [256]bool
instance : SZ Tryd.prog 90 256 := ⟨by kernel_rfl⟩
instance : BY Tryd.prog 90 256 := ⟨by kernel_rfl⟩
instance : AG Tryd.prog 90 true := ⟨by kernel_rfl⟩
instance : AR Tryd.prog 90 256 4 := ⟨by kernel_rfl⟩
instance : ZV Tryd.prog 90 (List.replicate 256 (.bool false)) := ⟨by kernel_rfl⟩
-- 91: strings.asciiSet
instance : SZ Tryd.prog 91 256 := ⟨by kernel_rfl⟩
instance : BY Tryd.prog 91 256 := ⟨by kernel_rfl⟩
instance : AG Tryd.prog 91 true := ⟨by kernel_rfl⟩
instance : AR Tryd.prog 91 256 4 := ⟨by kernel_rfl⟩
instance : ZV Tryd.prog 91 (List.replicate 256 (.bool false)) := ⟨by kernel_rfl⟩
-- 93: func(string) (strings.asciiSet, bool)
instance : SZ Tryd.prog 93 1 := ⟨by kernel_rfl⟩
instance : BY Tryd.prog 93 8 := ⟨by kernel_rfl⟩
instance : AG Tryd.prog 93 false := ⟨by kernel_rfl⟩
instance : ZV Tryd.prog 93 ([.nilFunc]) := ⟨by kernel_rfl⟩
-- 94: func(string, *strings.asciiSet) string
instance : SZ Tryd.prog 94 1 := ⟨by kernel_rfl⟩
instance : BY Tryd.prog 94 8 := ⟨by kernel_rfl⟩
instance : AG Tryd.prog 94 false := ⟨by kernel_rfl⟩
instance : ZV Tryd.prog 94 ([.nilFunc]) := ⟨by kernel_rfl⟩
-- 95: *strings.asciiSet
instance : SZ Tryd.prog 95 1 := ⟨by kernel_rfl⟩
instance : BY Tryd.prog 95 8 := ⟨by kernel_rfl⟩
instance : AG Tryd.prog 95 false := ⟨by kernel_rfl⟩
instance : PT Tryd.prog 95 91 := ⟨by kernel_rfl⟩
instance : ZZ Tryd.prog 95 (.pointer none) := ⟨by kernel_rfl⟩
instance : ZV Tryd.prog 95 ([.pointer none]) := ⟨by kernel_rfl⟩
-- 96: map[int]*client.part
instance : SZ Tryd.prog 96 1 := ⟨by kernel_rfl⟩
instance : BY Tryd.prog 96 8 := ⟨by kernel_rfl⟩
instance : AG Tryd.prog 96 false := ⟨by kernel_rfl⟩
instance : MP Tryd.prog 96 3 71 := ⟨by kernel_rfl⟩
instance : ZZ Tryd.prog 96 (.map none) := ⟨by kernel_rfl⟩
instance : ZV Tryd.prog 96 ([.map none]) := ⟨by kernel_rfl⟩
-- 97: struct { m map[int]*client.part }
instance : SZ Tryd.prog 97 1 := ⟨by kernel_rfl⟩
instance : BY Tryd.prog 97 8 := ⟨by kernel_rfl⟩
instance : AG Tryd.prog 97 true := ⟨by kernel_rfl⟩
instance : FS Tryd.prog 97 := ⟨by kernel_rfl⟩
instance : FT Tryd.prog 97 0 96 := ⟨by kernel_rfl⟩
instance : FO Tryd.prog 97 0 0 1 := ⟨by kernel_rfl, rfl⟩
instance : ZZ Tryd.prog 97 (.agg [.map none].toArray) := ⟨by kernel_rfl⟩
instance : ZV Tryd.prog 97 ([.map none]) := ⟨by kernel_rfl⟩
-- 98: hold.Table[*seneschal/client.part]
instance : SZ Tryd.prog 98 1 := ⟨by kernel_rfl⟩
instance : BY Tryd.prog 98 8 := ⟨by kernel_rfl⟩
instance : AG Tryd.prog 98 true := ⟨by kernel_rfl⟩
instance : FS Tryd.prog 98 := ⟨by kernel_rfl⟩
instance : FT Tryd.prog 98 0 96 := ⟨by kernel_rfl⟩
instance : FO Tryd.prog 98 0 0 1 := ⟨by kernel_rfl, rfl⟩
instance : ZZ Tryd.prog 98 (.agg [.map none].toArray) := ⟨by kernel_rfl⟩
instance : ZV Tryd.prog 98 ([.map none]) := ⟨by kernel_rfl⟩
-- 99: func(func(int, *client.part) bool)
instance : SZ Tryd.prog 99 1 := ⟨by kernel_rfl⟩
instance : BY Tryd.prog 99 8 := ⟨by kernel_rfl⟩
instance : AG Tryd.prog 99 false := ⟨by kernel_rfl⟩
instance : ZV Tryd.prog 99 ([.nilFunc]) := ⟨by kernel_rfl⟩
-- 100: iter.Seq2[int,*seneschal/client.part]
instance : SZ Tryd.prog 100 1 := ⟨by kernel_rfl⟩
instance : BY Tryd.prog 100 8 := ⟨by kernel_rfl⟩
instance : AG Tryd.prog 100 false := ⟨by kernel_rfl⟩
instance : ZV Tryd.prog 100 ([.nilFunc]) := ⟨by kernel_rfl⟩
-- 101: func() iter.Seq2[int,*seneschal/client.part]
instance : SZ Tryd.prog 101 1 := ⟨by kernel_rfl⟩
instance : BY Tryd.prog 101 8 := ⟨by kernel_rfl⟩
instance : AG Tryd.prog 101 false := ⟨by kernel_rfl⟩
instance : ZV Tryd.prog 101 ([.nilFunc]) := ⟨by kernel_rfl⟩
-- 102: func(string) bool
instance : SZ Tryd.prog 102 1 := ⟨by kernel_rfl⟩
instance : BY Tryd.prog 102 8 := ⟨by kernel_rfl⟩
instance : AG Tryd.prog 102 false := ⟨by kernel_rfl⟩
instance : ZV Tryd.prog 102 ([.nilFunc]) := ⟨by kernel_rfl⟩
-- 103: func(api.Op) (api.Op, int)
instance : SZ Tryd.prog 103 1 := ⟨by kernel_rfl⟩
instance : BY Tryd.prog 103 8 := ⟨by kernel_rfl⟩
instance : AG Tryd.prog 103 false := ⟨by kernel_rfl⟩
instance : ZV Tryd.prog 103 ([.nilFunc]) := ⟨by kernel_rfl⟩
-- 104: func(uint8) bool
instance : SZ Tryd.prog 104 1 := ⟨by kernel_rfl⟩
instance : BY Tryd.prog 104 8 := ⟨by kernel_rfl⟩
instance : AG Tryd.prog 104 false := ⟨by kernel_rfl⟩
instance : ZV Tryd.prog 104 ([.nilFunc]) := ⟨by kernel_rfl⟩
-- 106: func(string) (int32, int)
instance : SZ Tryd.prog 106 1 := ⟨by kernel_rfl⟩
instance : BY Tryd.prog 106 8 := ⟨by kernel_rfl⟩
instance : AG Tryd.prog 106 false := ⟨by kernel_rfl⟩
instance : ZV Tryd.prog 106 ([.nilFunc]) := ⟨by kernel_rfl⟩
-- 107: func(string, int32) bool
instance : SZ Tryd.prog 107 1 := ⟨by kernel_rfl⟩
instance : BY Tryd.prog 107 8 := ⟨by kernel_rfl⟩
instance : AG Tryd.prog 107 false := ⟨by kernel_rfl⟩
instance : ZV Tryd.prog 107 ([.nilFunc]) := ⟨by kernel_rfl⟩
-- 108: func(func(int) bool) iter.Seq2[int,*seneschal/client.part]
instance : SZ Tryd.prog 108 1 := ⟨by kernel_rfl⟩
instance : BY Tryd.prog 108 8 := ⟨by kernel_rfl⟩
instance : AG Tryd.prog 108 false := ⟨by kernel_rfl⟩
instance : ZV Tryd.prog 108 ([.nilFunc]) := ⟨by kernel_rfl⟩
-- 109: func(int) bool
instance : SZ Tryd.prog 109 1 := ⟨by kernel_rfl⟩
instance : BY Tryd.prog 109 8 := ⟨by kernel_rfl⟩
instance : AG Tryd.prog 109 false := ⟨by kernel_rfl⟩
instance : ZV Tryd.prog 109 ([.nilFunc]) := ⟨by kernel_rfl⟩
-- 110: func(string, int32) int
instance : SZ Tryd.prog 110 1 := ⟨by kernel_rfl⟩
instance : BY Tryd.prog 110 8 := ⟨by kernel_rfl⟩
instance : AG Tryd.prog 110 false := ⟨by kernel_rfl⟩
instance : ZV Tryd.prog 110 ([.nilFunc]) := ⟨by kernel_rfl⟩
-- 111: func(int, *client.part) bool
instance : SZ Tryd.prog 111 1 := ⟨by kernel_rfl⟩
instance : BY Tryd.prog 111 8 := ⟨by kernel_rfl⟩
instance : AG Tryd.prog 111 false := ⟨by kernel_rfl⟩
instance : ZV Tryd.prog 111 ([.nilFunc]) := ⟨by kernel_rfl⟩
-- 112: func(map[int]*client.part) map[int]*client.part
instance : SZ Tryd.prog 112 1 := ⟨by kernel_rfl⟩
instance : BY Tryd.prog 112 8 := ⟨by kernel_rfl⟩
instance : AG Tryd.prog 112 false := ⟨by kernel_rfl⟩
instance : ZV Tryd.prog 112 ([.nilFunc]) := ⟨by kernel_rfl⟩
-- 113: []int
instance : SZ Tryd.prog 113 1 := ⟨by kernel_rfl⟩
instance : BY Tryd.prog 113 24 := ⟨by kernel_rfl⟩
instance : AG Tryd.prog 113 false := ⟨by kernel_rfl⟩
instance : EL Tryd.prog 113 3 := ⟨by kernel_rfl⟩
instance : NI Tryd.prog 113 := ⟨by kernel_rfl⟩
instance : ZZ Tryd.prog 113 (.slice none 0 0) := ⟨by kernel_rfl⟩
instance : ZV Tryd.prog 113 ([.slice none 0 0]) := ⟨by kernel_rfl⟩
-- 114: func(iter.Seq[int]) []int
instance : SZ Tryd.prog 114 1 := ⟨by kernel_rfl⟩
instance : BY Tryd.prog 114 8 := ⟨by kernel_rfl⟩
instance : AG Tryd.prog 114 false := ⟨by kernel_rfl⟩
instance : ZV Tryd.prog 114 ([.nilFunc]) := ⟨by kernel_rfl⟩
-- 115: func(func(int) bool)
instance : SZ Tryd.prog 115 1 := ⟨by kernel_rfl⟩
instance : BY Tryd.prog 115 8 := ⟨by kernel_rfl⟩
instance : AG Tryd.prog 115 false := ⟨by kernel_rfl⟩
instance : ZV Tryd.prog 115 ([.nilFunc]) := ⟨by kernel_rfl⟩
-- 116: iter.Seq[int]
instance : SZ Tryd.prog 116 1 := ⟨by kernel_rfl⟩
instance : BY Tryd.prog 116 8 := ⟨by kernel_rfl⟩
instance : AG Tryd.prog 116 false := ⟨by kernel_rfl⟩
instance : ZV Tryd.prog 116 ([.nilFunc]) := ⟨by kernel_rfl⟩
-- 117: func(map[int]*client.part) iter.Seq[int]
instance : SZ Tryd.prog 117 1 := ⟨by kernel_rfl⟩
instance : BY Tryd.prog 117 8 := ⟨by kernel_rfl⟩
instance : AG Tryd.prog 117 false := ⟨by kernel_rfl⟩
instance : ZV Tryd.prog 117 ([.nilFunc]) := ⟨by kernel_rfl⟩
-- 118: [256]uint8
instance : SZ Tryd.prog 118 256 := ⟨by kernel_rfl⟩
instance : BY Tryd.prog 118 256 := ⟨by kernel_rfl⟩
instance : AG Tryd.prog 118 true := ⟨by kernel_rfl⟩
instance : AR Tryd.prog 118 256 5 := ⟨by kernel_rfl⟩
instance : ZV Tryd.prog 118 (List.replicate 256 (.int .u8 0)) := ⟨by kernel_rfl⟩
-- 119: uint
instance : SZ Tryd.prog 119 1 := ⟨by kernel_rfl⟩
instance : BY Tryd.prog 119 8 := ⟨by kernel_rfl⟩
instance : AG Tryd.prog 119 false := ⟨by kernel_rfl⟩
instance : IK Tryd.prog 119 .u64 := ⟨by kernel_rfl⟩
instance : ZZ Tryd.prog 119 (.int .u64 0) := ⟨by kernel_rfl⟩
instance : ZV Tryd.prog 119 ([.int .u64 0]) := ⟨by kernel_rfl⟩
-- 120: struct { lo uint8; hi uint8 }
instance : SZ Tryd.prog 120 2 := ⟨by kernel_rfl⟩
instance : BY Tryd.prog 120 2 := ⟨by kernel_rfl⟩
instance : AG Tryd.prog 120 true := ⟨by kernel_rfl⟩
instance : FS Tryd.prog 120 := ⟨by kernel_rfl⟩
instance : FT Tryd.prog 120 0 5 := ⟨by kernel_rfl⟩
instance : FO Tryd.prog 120 0 0 1 := ⟨by kernel_rfl, rfl⟩
instance : FT Tryd.prog 120 1 5 := ⟨by kernel_rfl⟩
instance : FO Tryd.prog 120 1 1 1 := ⟨by kernel_rfl, rfl⟩
instance : ZZ Tryd.prog 120 (.agg [.int .u8 0, .int .u8 0].toArray) := ⟨by kernel_rfl⟩
instance : ZV Tryd.prog 120 ([.int .u8 0, .int .u8 0]) := ⟨by kernel_rfl⟩
-- 121: utf8.acceptRange
instance : SZ Tryd.prog 121 2 := ⟨by kernel_rfl⟩
instance : BY Tryd.prog 121 2 := ⟨by kernel_rfl⟩
instance : AG Tryd.prog 121 true := ⟨by kernel_rfl⟩
instance : FS Tryd.prog 121 := ⟨by kernel_rfl⟩
instance : FT Tryd.prog 121 0 5 := ⟨by kernel_rfl⟩
instance : FO Tryd.prog 121 0 0 1 := ⟨by kernel_rfl, rfl⟩
instance : FT Tryd.prog 121 1 5 := ⟨by kernel_rfl⟩
instance : FO Tryd.prog 121 1 1 1 := ⟨by kernel_rfl, rfl⟩
instance : ZZ Tryd.prog 121 (.agg [.int .u8 0, .int .u8 0].toArray) := ⟨by kernel_rfl⟩
instance : ZV Tryd.prog 121 ([.int .u8 0, .int .u8 0]) := ⟨by kernel_rfl⟩
-- 122: [16]utf8.acceptRange
instance : SZ Tryd.prog 122 32 := ⟨by kernel_rfl⟩
instance : BY Tryd.prog 122 32 := ⟨by kernel_rfl⟩
instance : AG Tryd.prog 122 true := ⟨by kernel_rfl⟩
instance : AR Tryd.prog 122 16 121 := ⟨by kernel_rfl⟩
instance : ZV Tryd.prog 122 (List.replicate 32 (.int .u8 0)) := ⟨by kernel_rfl⟩
-- 123: func(string, uint8) int
instance : SZ Tryd.prog 123 1 := ⟨by kernel_rfl⟩
instance : BY Tryd.prog 123 8 := ⟨by kernel_rfl⟩
instance : AG Tryd.prog 123 false := ⟨by kernel_rfl⟩
instance : ZV Tryd.prog 123 ([.nilFunc]) := ⟨by kernel_rfl⟩
-- 124: func(int32) bool
instance : SZ Tryd.prog 124 1 := ⟨by kernel_rfl⟩
instance : BY Tryd.prog 124 8 := ⟨by kernel_rfl⟩
instance : AG Tryd.prog 124 false := ⟨by kernel_rfl⟩
instance : ZV Tryd.prog 124 ([.nilFunc]) := ⟨by kernel_rfl⟩
-- 125: func(string, string) int
instance : SZ Tryd.prog 125 1 := ⟨by kernel_rfl⟩
instance : BY Tryd.prog 125 8 := ⟨by kernel_rfl⟩
instance : AG Tryd.prog 125 false := ⟨by kernel_rfl⟩
instance : ZV Tryd.prog 125 ([.nilFunc]) := ⟨by kernel_rfl⟩
-- 126: func(interface {}) interface {}
instance : SZ Tryd.prog 126 1 := ⟨by kernel_rfl⟩
instance : BY Tryd.prog 126 8 := ⟨by kernel_rfl⟩
instance : AG Tryd.prog 126 false := ⟨by kernel_rfl⟩
instance : ZV Tryd.prog 126 ([.nilFunc]) := ⟨by kernel_rfl⟩
-- 127: func([]int)
instance : SZ Tryd.prog 127 1 := ⟨by kernel_rfl⟩
instance : BY Tryd.prog 127 8 := ⟨by kernel_rfl⟩
instance : AG Tryd.prog 127 false := ⟨by kernel_rfl⟩
instance : ZV Tryd.prog 127 ([.nilFunc]) := ⟨by kernel_rfl⟩
-- 128: func([]int, iter.Seq[int]) []int
instance : SZ Tryd.prog 128 1 := ⟨by kernel_rfl⟩
instance : BY Tryd.prog 128 8 := ⟨by kernel_rfl⟩
instance : AG Tryd.prog 128 false := ⟨by kernel_rfl⟩
instance : ZV Tryd.prog 128 ([.nilFunc]) := ⟨by kernel_rfl⟩
-- 129: func([]int, int, int, int)
instance : SZ Tryd.prog 129 1 := ⟨by kernel_rfl⟩
instance : BY Tryd.prog 129 8 := ⟨by kernel_rfl⟩
instance : AG Tryd.prog 129 false := ⟨by kernel_rfl⟩
instance : ZV Tryd.prog 129 ([.nilFunc]) := ⟨by kernel_rfl⟩
-- 130: func(uint) int
instance : SZ Tryd.prog 130 1 := ⟨by kernel_rfl⟩
instance : BY Tryd.prog 130 8 := ⟨by kernel_rfl⟩
instance : AG Tryd.prog 130 false := ⟨by kernel_rfl⟩
instance : ZV Tryd.prog 130 ([.nilFunc]) := ⟨by kernel_rfl⟩
-- 131: func([]int, int, int)
instance : SZ Tryd.prog 131 1 := ⟨by kernel_rfl⟩
instance : BY Tryd.prog 131 8 := ⟨by kernel_rfl⟩
instance : AG Tryd.prog 131 false := ⟨by kernel_rfl⟩
instance : ZV Tryd.prog 131 ([.nilFunc]) := ⟨by kernel_rfl⟩
-- 132: slices.sortedHint
instance : SZ Tryd.prog 132 1 := ⟨by kernel_rfl⟩
instance : BY Tryd.prog 132 8 := ⟨by kernel_rfl⟩
instance : AG Tryd.prog 132 false := ⟨by kernel_rfl⟩
instance : IK Tryd.prog 132 .i64 := ⟨by kernel_rfl⟩
instance : ZZ Tryd.prog 132 (.int .i64 0) := ⟨by kernel_rfl⟩
instance : ZV Tryd.prog 132 ([.int .i64 0]) := ⟨by kernel_rfl⟩
-- 134: func([]int, int, int) (int, slices.sortedHint)
instance : SZ Tryd.prog 134 1 := ⟨by kernel_rfl⟩
instance : BY Tryd.prog 134 8 := ⟨by kernel_rfl⟩
instance : AG Tryd.prog 134 false := ⟨by kernel_rfl⟩
instance : ZV Tryd.prog 134 ([.nilFunc]) := ⟨by kernel_rfl⟩
-- 135: func([]int, int, int) bool
instance : SZ Tryd.prog 135 1 := ⟨by kernel_rfl⟩
instance : BY Tryd.prog 135 8 := ⟨by kernel_rfl⟩
instance : AG Tryd.prog 135 false := ⟨by kernel_rfl⟩
instance : ZV Tryd.prog 135 ([.nilFunc]) := ⟨by kernel_rfl⟩
-- 136: func(int, int) bool
instance : SZ Tryd.prog 136 1 := ⟨by kernel_rfl⟩
instance : BY Tryd.prog 136 8 := ⟨by kernel_rfl⟩
instance : AG Tryd.prog 136 false := ⟨by kernel_rfl⟩
instance : ZV Tryd.prog 136 ([.nilFunc]) := ⟨by kernel_rfl⟩
-- 137: func([]int, int, int, int) int
instance : SZ Tryd.prog 137 1 := ⟨by kernel_rfl⟩
instance : BY Tryd.prog 137 8 := ⟨by kernel_rfl⟩
instance : AG Tryd.prog 137 false := ⟨by kernel_rfl⟩
instance : ZV Tryd.prog 137 ([.nilFunc]) := ⟨by kernel_rfl⟩
-- 138: func([]int, int, int, int) (int, bool)
instance : SZ Tryd.prog 138 1 := ⟨by kernel_rfl⟩
instance : BY Tryd.prog 138 8 := ⟨by kernel_rfl⟩
instance : AG Tryd.prog 138 false := ⟨by kernel_rfl⟩
instance : ZV Tryd.prog 138 ([.nilFunc]) := ⟨by kernel_rfl⟩
-- 139: func(uint32) int
instance : SZ Tryd.prog 139 1 := ⟨by kernel_rfl⟩
instance : BY Tryd.prog 139 8 := ⟨by kernel_rfl⟩
instance : AG Tryd.prog 139 false := ⟨by kernel_rfl⟩
instance : ZV Tryd.prog 139 ([.nilFunc]) := ⟨by kernel_rfl⟩
-- 140: uint32
instance : SZ Tryd.prog 140 1 := ⟨by kernel_rfl⟩
instance : BY Tryd.prog 140 4 := ⟨by kernel_rfl⟩
instance : AG Tryd.prog 140 false := ⟨by kernel_rfl⟩
instance : IK Tryd.prog 140 .u32 := ⟨by kernel_rfl⟩
instance : ZZ Tryd.prog 140 (.int .u32 0) := ⟨by kernel_rfl⟩
instance : ZV Tryd.prog 140 ([.int .u32 0]) := ⟨by kernel_rfl⟩
-- 141: func(uint64) int
instance : SZ Tryd.prog 141 1 := ⟨by kernel_rfl⟩
instance : BY Tryd.prog 141 8 := ⟨by kernel_rfl⟩
instance : AG Tryd.prog 141 false := ⟨by kernel_rfl⟩
instance : ZV Tryd.prog 141 ([.nilFunc]) := ⟨by kernel_rfl⟩
-- 142: uint64
instance : SZ Tryd.prog 142 1 := ⟨by kernel_rfl⟩
instance : BY Tryd.prog 142 8 := ⟨by kernel_rfl⟩
instance : AG Tryd.prog 142 false := ⟨by kernel_rfl⟩
instance : IK Tryd.prog 142 .u64 := ⟨by kernel_rfl⟩
instance : ZZ Tryd.prog 142 (.int .u64 0) := ⟨by kernel_rfl⟩
instance : ZV Tryd.prog 142 ([.int .u64 0]) := ⟨by kernel_rfl⟩
-- 143: slices.xorshift
instance : SZ Tryd.prog 143 1 := ⟨by kernel_rfl⟩
instance : BY Tryd.prog 143 8 := ⟨by kernel_rfl⟩
instance : AG Tryd.prog 143 false := ⟨by kernel_rfl⟩
instance : IK Tryd.prog 143 .u64 := ⟨by kernel_rfl⟩
instance : ZZ Tryd.prog 143 (.int .u64 0) := ⟨by kernel_rfl⟩
instance : ZV Tryd.prog 143 ([.int .u64 0]) := ⟨by kernel_rfl⟩
-- 144: func(int) uint
instance : SZ Tryd.prog 144 1 := ⟨by kernel_rfl⟩
instance : BY Tryd.prog 144 8 := ⟨by kernel_rfl⟩
instance : AG Tryd.prog 144 false := ⟨by kernel_rfl⟩
instance : ZV Tryd.prog 144 ([.nilFunc]) := ⟨by kernel_rfl⟩
-- 145: func() uint64
instance : SZ Tryd.prog 145 1 := ⟨by kernel_rfl⟩
instance : BY Tryd.prog 145 8 := ⟨by kernel_rfl⟩
instance : AG Tryd.prog 145 false := ⟨by kernel_rfl⟩
instance : ZV Tryd.prog 145 ([.nilFunc]) := ⟨by kernel_rfl⟩
-- 146: func([]int, int, *int) int
instance : SZ Tryd.prog 146 1 := ⟨by kernel_rfl⟩
instance : BY Tryd.prog 146 8 := ⟨by kernel_rfl⟩
instance : AG Tryd.prog 146 false := ⟨by kernel_rfl⟩
instance : ZV Tryd.prog 146 ([.nilFunc]) := ⟨by kernel_rfl⟩
-- 147: *int
instance : SZ Tryd.prog 147 1 := ⟨by kernel_rfl⟩
instance : BY Tryd.prog 147 8 := ⟨by kernel_rfl⟩
instance : AG Tryd.prog 147 false := ⟨by kernel_rfl⟩
instance : PT Tryd.prog 147 3 := ⟨by kernel_rfl⟩
instance : ZZ Tryd.prog 147 (.pointer none) := ⟨by kernel_rfl⟩
instance : ZV Tryd.prog 147 ([.pointer none]) := ⟨by kernel_rfl⟩
-- 148: func([]int, int, int, int, *int) int
instance : SZ Tryd.prog 148 1 := ⟨by kernel_rfl⟩
instance : BY Tryd.prog 148 8 := ⟨by kernel_rfl⟩
instance : AG Tryd.prog 148 false := ⟨by kernel_rfl⟩
instance : ZV Tryd.prog 148 ([.nilFunc]) := ⟨by kernel_rfl⟩
-- 149: *slices.xorshift
instance : SZ Tryd.prog 149 1 := ⟨by kernel_rfl⟩
instance : BY Tryd.prog 149 8 := ⟨by kernel_rfl⟩
instance : AG Tryd.prog 149 false := ⟨by kernel_rfl⟩
instance : PT Tryd.prog 149 143 := ⟨by kernel_rfl⟩
instance : ZZ Tryd.prog 149 (.pointer none) := ⟨by kernel_rfl⟩
instance : ZV Tryd.prog 149 ([.pointer none]) := ⟨by kernel_rfl⟩
-- 151: func([]int, int, int, *int) (int, int)
instance : SZ Tryd.prog 151 1 := ⟨by kernel_rfl⟩
instance : BY Tryd.prog 151 8 := ⟨by kernel_rfl⟩
instance : AG Tryd.prog 151 false := ⟨by kernel_rfl⟩
instance : ZV Tryd.prog 151 ([.nilFunc]) := ⟨by kernel_rfl⟩
-- 152: func() string
instance : SZ Tryd.prog 152 1 := ⟨by kernel_rfl⟩
instance : BY Tryd.prog 152 8 := ⟨by kernel_rfl⟩
instance : AG Tryd.prog 152 false := ⟨by kernel_rfl⟩
instance : ZV Tryd.prog 152 ([.nilFunc]) := ⟨by kernel_rfl⟩
-- 155: [0]*runtime.PanicNilError
instance : SZ Tryd.prog 155 0 := ⟨by kernel_rfl⟩
instance : BY Tryd.prog 155 0 := ⟨by kernel_rfl⟩
instance : AG Tryd.prog 155 true := ⟨by kernel_rfl⟩
instance : AR Tryd.prog 155 0 16 := ⟨by kernel_rfl⟩
instance : ZV Tryd.prog 155 ([]) := ⟨by kernel_rfl⟩
-- 160: func(unsafe.Pointer, unsafe.Pointer) bool
instance : SZ Tryd.prog 160 1 := ⟨by kernel_rfl⟩
instance : BY Tryd.prog 160 8 := ⟨by kernel_rfl⟩
instance : AG Tryd.prog 160 false := ⟨by kernel_rfl⟩
instance : ZV Tryd.prog 160 ([.nilFunc]) := ⟨by kernel_rfl⟩
-- 161: *uint8
instance : SZ Tryd.prog 161 1 := ⟨by kernel_rfl⟩
instance : BY Tryd.prog 161 8 := ⟨by kernel_rfl⟩
instance : AG Tryd.prog 161 false := ⟨by kernel_rfl⟩
instance : PT Tryd.prog 161 5 := ⟨by kernel_rfl⟩
instance : ZZ Tryd.prog 161 (.pointer none) := ⟨by kernel_rfl⟩
instance : ZV Tryd.prog 161 ([.pointer none]) := ⟨by kernel_rfl⟩
end Go.Proofs.YtaacdekfeljpeaaDoor
