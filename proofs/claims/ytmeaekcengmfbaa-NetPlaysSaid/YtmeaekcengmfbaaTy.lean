/- The facts on the types of this seat's program, each shown by the kernel. Written by gen_ty.py. -/
import Derived.Test.YtmeaekcengmfbaaProg
import Derived.Test.YtmeaekcengmfbaaK
import Derived.KernelRfl
namespace Go.Proofs.Ytmeaekcengmfbaa
open Go
-- 1: func()
instance : SZ Try.prog 1 1 := ⟨by kernel_rfl⟩
instance : BY Try.prog 1 8 := ⟨by kernel_rfl⟩
instance : AG Try.prog 1 false := ⟨by kernel_rfl⟩
instance : ZV Try.prog 1 ([.nilFunc]) := ⟨by kernel_rfl⟩
-- 2: int64
instance : SZ Try.prog 2 1 := ⟨by kernel_rfl⟩
instance : BY Try.prog 2 8 := ⟨by kernel_rfl⟩
instance : AG Try.prog 2 false := ⟨by kernel_rfl⟩
instance : IK Try.prog 2 .i64 := ⟨by kernel_rfl⟩
instance : ZZ Try.prog 2 (.int .i64 0) := ⟨by kernel_rfl⟩
instance : ZV Try.prog 2 ([.int .i64 0]) := ⟨by kernel_rfl⟩
-- 3: int
instance : SZ Try.prog 3 1 := ⟨by kernel_rfl⟩
instance : BY Try.prog 3 8 := ⟨by kernel_rfl⟩
instance : AG Try.prog 3 false := ⟨by kernel_rfl⟩
instance : IK Try.prog 3 .i64 := ⟨by kernel_rfl⟩
instance : ZZ Try.prog 3 (.int .i64 0) := ⟨by kernel_rfl⟩
instance : ZV Try.prog 3 ([.int .i64 0]) := ⟨by kernel_rfl⟩
-- 4: bool
instance : SZ Try.prog 4 1 := ⟨by kernel_rfl⟩
instance : BY Try.prog 4 1 := ⟨by kernel_rfl⟩
instance : AG Try.prog 4 false := ⟨by kernel_rfl⟩
instance : BL Try.prog 4 := ⟨by kernel_rfl⟩
instance : ZZ Try.prog 4 (.bool false) := ⟨by kernel_rfl⟩
instance : ZV Try.prog 4 ([.bool false]) := ⟨by kernel_rfl⟩
-- 5: uint8
instance : SZ Try.prog 5 1 := ⟨by kernel_rfl⟩
instance : BY Try.prog 5 1 := ⟨by kernel_rfl⟩
instance : AG Try.prog 5 false := ⟨by kernel_rfl⟩
instance : IK Try.prog 5 .u8 := ⟨by kernel_rfl⟩
instance : ZZ Try.prog 5 (.int .u8 0) := ⟨by kernel_rfl⟩
instance : ZV Try.prog 5 ([.int .u8 0]) := ⟨by kernel_rfl⟩
-- 9: string
instance : SZ Try.prog 9 1 := ⟨by kernel_rfl⟩
instance : BY Try.prog 9 16 := ⟨by kernel_rfl⟩
instance : AG Try.prog 9 false := ⟨by kernel_rfl⟩
instance : NI Try.prog 9 := ⟨by kernel_rfl⟩
instance : ST Try.prog 9 := ⟨by kernel_rfl⟩
instance : ZZ Try.prog 9 (.string (ByteArray.mk #[])) := ⟨by kernel_rfl⟩
instance : ZV Try.prog 9 ([.string (ByteArray.mk #[])]) := ⟨by kernel_rfl⟩
-- 12: uintptr
instance : SZ Try.prog 12 1 := ⟨by kernel_rfl⟩
instance : BY Try.prog 12 8 := ⟨by kernel_rfl⟩
instance : AG Try.prog 12 false := ⟨by kernel_rfl⟩
instance : IK Try.prog 12 .u64 := ⟨by kernel_rfl⟩
instance : ZZ Try.prog 12 (.int .u64 0) := ⟨by kernel_rfl⟩
instance : ZV Try.prog 12 ([.int .u64 0]) := ⟨by kernel_rfl⟩
-- 13: struct { msg string; addr uintptr }
instance : SZ Try.prog 13 2 := ⟨by kernel_rfl⟩
instance : BY Try.prog 13 24 := ⟨by kernel_rfl⟩
instance : AG Try.prog 13 true := ⟨by kernel_rfl⟩
instance : FS Try.prog 13 := ⟨by kernel_rfl⟩
instance : FT Try.prog 13 0 9 := ⟨by kernel_rfl⟩
instance : FO Try.prog 13 0 0 1 := ⟨by kernel_rfl, rfl⟩
instance : FT Try.prog 13 1 12 := ⟨by kernel_rfl⟩
instance : FO Try.prog 13 1 1 1 := ⟨by kernel_rfl, rfl⟩
instance : ZZ Try.prog 13 (.agg [.string (ByteArray.mk #[]), .int .u64 0].toArray) := ⟨by kernel_rfl⟩
instance : ZV Try.prog 13 ([.string (ByteArray.mk #[]), .int .u64 0]) := ⟨by kernel_rfl⟩
-- 20: interface {}
instance : SZ Try.prog 20 1 := ⟨by kernel_rfl⟩
instance : BY Try.prog 20 16 := ⟨by kernel_rfl⟩
instance : AG Try.prog 20 false := ⟨by kernel_rfl⟩
instance : ZV Try.prog 20 ([.nilIface]) := ⟨by kernel_rfl⟩
-- 21: int32
instance : SZ Try.prog 21 1 := ⟨by kernel_rfl⟩
instance : BY Try.prog 21 4 := ⟨by kernel_rfl⟩
instance : AG Try.prog 21 false := ⟨by kernel_rfl⟩
instance : IK Try.prog 21 .i32 := ⟨by kernel_rfl⟩
instance : ZZ Try.prog 21 (.int .i32 0) := ⟨by kernel_rfl⟩
instance : ZV Try.prog 21 ([.int .i32 0]) := ⟨by kernel_rfl⟩
-- 22: *net.Bag
instance : SZ Try.prog 22 1 := ⟨by kernel_rfl⟩
instance : BY Try.prog 22 8 := ⟨by kernel_rfl⟩
instance : AG Try.prog 22 false := ⟨by kernel_rfl⟩
instance : PT Try.prog 22 55 := ⟨by kernel_rfl⟩
instance : ZZ Try.prog 22 (.pointer none) := ⟨by kernel_rfl⟩
instance : ZV Try.prog 22 ([.pointer none]) := ⟨by kernel_rfl⟩
-- 23: func() *net.Bag
instance : SZ Try.prog 23 1 := ⟨by kernel_rfl⟩
instance : BY Try.prog 23 8 := ⟨by kernel_rfl⟩
instance : AG Try.prog 23 false := ⟨by kernel_rfl⟩
instance : ZV Try.prog 23 ([.nilFunc]) := ⟨by kernel_rfl⟩
-- 24: func(...api.Msg) int
instance : SZ Try.prog 24 1 := ⟨by kernel_rfl⟩
instance : BY Try.prog 24 8 := ⟨by kernel_rfl⟩
instance : AG Try.prog 24 false := ⟨by kernel_rfl⟩
instance : ZV Try.prog 24 ([.nilFunc]) := ⟨by kernel_rfl⟩
-- 25: []uint8
instance : SZ Try.prog 25 1 := ⟨by kernel_rfl⟩
instance : BY Try.prog 25 24 := ⟨by kernel_rfl⟩
instance : AG Try.prog 25 false := ⟨by kernel_rfl⟩
instance : EL Try.prog 25 5 := ⟨by kernel_rfl⟩
instance : NI Try.prog 25 := ⟨by kernel_rfl⟩
instance : ZZ Try.prog 25 (.slice none 0 0) := ⟨by kernel_rfl⟩
instance : ZV Try.prog 25 ([.slice none 0 0]) := ⟨by kernel_rfl⟩
-- 26: []api.Vote
instance : SZ Try.prog 26 1 := ⟨by kernel_rfl⟩
instance : BY Try.prog 26 24 := ⟨by kernel_rfl⟩
instance : AG Try.prog 26 false := ⟨by kernel_rfl⟩
instance : EL Try.prog 26 48 := ⟨by kernel_rfl⟩
instance : NI Try.prog 26 := ⟨by kernel_rfl⟩
instance : ZZ Try.prog 26 (.slice none 0 0) := ⟨by kernel_rfl⟩
instance : ZV Try.prog 26 ([.slice none 0 0]) := ⟨by kernel_rfl⟩
-- 27: [32]uint8
instance : SZ Try.prog 27 32 := ⟨by kernel_rfl⟩
instance : BY Try.prog 27 32 := ⟨by kernel_rfl⟩
instance : AG Try.prog 27 true := ⟨by kernel_rfl⟩
instance : AR Try.prog 27 32 5 := ⟨by kernel_rfl⟩
instance : ZV Try.prog 27 (List.replicate 32 (.int .u8 0)) := ⟨by kernel_rfl⟩
-- 28: api.Hash
instance : SZ Try.prog 28 32 := ⟨by kernel_rfl⟩
instance : BY Try.prog 28 32 := ⟨by kernel_rfl⟩
instance : AG Try.prog 28 true := ⟨by kernel_rfl⟩
instance : AR Try.prog 28 32 5 := ⟨by kernel_rfl⟩
instance : ZV Try.prog 28 (List.replicate 32 (.int .u8 0)) := ⟨by kernel_rfl⟩
-- 29: struct { Kind int; From int; To int; Slot int; View int; Val
instance : SZ Try.prog 29 39 := ⟨by kernel_rfl⟩
instance : BY Try.prog 29 120 := ⟨by kernel_rfl⟩
instance : AG Try.prog 29 true := ⟨by kernel_rfl⟩
instance : FS Try.prog 29 := ⟨by kernel_rfl⟩
instance : FT Try.prog 29 0 3 := ⟨by kernel_rfl⟩
instance : FO Try.prog 29 0 0 1 := ⟨by kernel_rfl, rfl⟩
instance : FT Try.prog 29 1 3 := ⟨by kernel_rfl⟩
instance : FO Try.prog 29 1 1 1 := ⟨by kernel_rfl, rfl⟩
instance : FT Try.prog 29 2 3 := ⟨by kernel_rfl⟩
instance : FO Try.prog 29 2 2 1 := ⟨by kernel_rfl, rfl⟩
instance : FT Try.prog 29 3 3 := ⟨by kernel_rfl⟩
instance : FO Try.prog 29 3 3 1 := ⟨by kernel_rfl, rfl⟩
instance : FT Try.prog 29 4 3 := ⟨by kernel_rfl⟩
instance : FO Try.prog 29 4 4 1 := ⟨by kernel_rfl, rfl⟩
instance : FT Try.prog 29 5 25 := ⟨by kernel_rfl⟩
instance : FO Try.prog 29 5 5 1 := ⟨by kernel_rfl, rfl⟩
instance : FT Try.prog 29 6 26 := ⟨by kernel_rfl⟩
instance : FO Try.prog 29 6 6 1 := ⟨by kernel_rfl, rfl⟩
instance : FT Try.prog 29 7 28 := ⟨by kernel_rfl⟩
instance : FO Try.prog 29 7 7 32 := ⟨by kernel_rfl, rfl⟩
instance : ZZ Try.prog 29 (.agg [.int .i64 0, .int .i64 0, .int .i64 0, .int .i64 0, .int .i64 0, .slice none 0 0, .slice none 0 0, .int .u8 0, .int .u8 0, .int .u8 0, .int .u8 0, .int .u8 0, .int .u8 0, .int .u8 0, .int .u8 0, .int .u8 0, .int .u8 0, .int .u8 0, .int .u8 0, .int .u8 0, .int .u8 0, .int .u8 0, .int .u8 0, .int .u8 0, .int .u8 0, .int .u8 0, .int .u8 0, .int .u8 0, .int .u8 0, .int .u8 0, .int .u8 0, .int .u8 0, .int .u8 0, .int .u8 0, .int .u8 0, .int .u8 0, .int .u8 0, .int .u8 0, .int .u8 0].toArray) := ⟨by kernel_rfl⟩
instance : ZV Try.prog 29 ([.int .i64 0, .int .i64 0, .int .i64 0, .int .i64 0, .int .i64 0, .slice none 0 0, .slice none 0 0] ++ (List.replicate 32 (.int .u8 0))) := ⟨by kernel_rfl⟩
-- 30: api.Msg
instance : SZ Try.prog 30 39 := ⟨by kernel_rfl⟩
instance : BY Try.prog 30 120 := ⟨by kernel_rfl⟩
instance : AG Try.prog 30 true := ⟨by kernel_rfl⟩
instance : FS Try.prog 30 := ⟨by kernel_rfl⟩
instance : FT Try.prog 30 0 3 := ⟨by kernel_rfl⟩
instance : FO Try.prog 30 0 0 1 := ⟨by kernel_rfl, rfl⟩
instance : FT Try.prog 30 1 3 := ⟨by kernel_rfl⟩
instance : FO Try.prog 30 1 1 1 := ⟨by kernel_rfl, rfl⟩
instance : FT Try.prog 30 2 3 := ⟨by kernel_rfl⟩
instance : FO Try.prog 30 2 2 1 := ⟨by kernel_rfl, rfl⟩
instance : FT Try.prog 30 3 3 := ⟨by kernel_rfl⟩
instance : FO Try.prog 30 3 3 1 := ⟨by kernel_rfl, rfl⟩
instance : FT Try.prog 30 4 3 := ⟨by kernel_rfl⟩
instance : FO Try.prog 30 4 4 1 := ⟨by kernel_rfl, rfl⟩
instance : FT Try.prog 30 5 25 := ⟨by kernel_rfl⟩
instance : FO Try.prog 30 5 5 1 := ⟨by kernel_rfl, rfl⟩
instance : FT Try.prog 30 6 26 := ⟨by kernel_rfl⟩
instance : FO Try.prog 30 6 6 1 := ⟨by kernel_rfl, rfl⟩
instance : FT Try.prog 30 7 28 := ⟨by kernel_rfl⟩
instance : FO Try.prog 30 7 7 32 := ⟨by kernel_rfl, rfl⟩
instance : ZZ Try.prog 30 (.agg [.int .i64 0, .int .i64 0, .int .i64 0, .int .i64 0, .int .i64 0, .slice none 0 0, .slice none 0 0, .int .u8 0, .int .u8 0, .int .u8 0, .int .u8 0, .int .u8 0, .int .u8 0, .int .u8 0, .int .u8 0, .int .u8 0, .int .u8 0, .int .u8 0, .int .u8 0, .int .u8 0, .int .u8 0, .int .u8 0, .int .u8 0, .int .u8 0, .int .u8 0, .int .u8 0, .int .u8 0, .int .u8 0, .int .u8 0, .int .u8 0, .int .u8 0, .int .u8 0, .int .u8 0, .int .u8 0, .int .u8 0, .int .u8 0, .int .u8 0, .int .u8 0, .int .u8 0].toArray) := ⟨by kernel_rfl⟩
instance : ZV Try.prog 30 ([.int .i64 0, .int .i64 0, .int .i64 0, .int .i64 0, .int .i64 0, .slice none 0 0, .slice none 0 0] ++ (List.replicate 32 (.int .u8 0))) := ⟨by kernel_rfl⟩
-- 31: func(int) bool
instance : SZ Try.prog 31 1 := ⟨by kernel_rfl⟩
instance : BY Try.prog 31 8 := ⟨by kernel_rfl⟩
instance : AG Try.prog 31 false := ⟨by kernel_rfl⟩
instance : ZV Try.prog 31 ([.nilFunc]) := ⟨by kernel_rfl⟩
-- 32: func() int
instance : SZ Try.prog 32 1 := ⟨by kernel_rfl⟩
instance : BY Try.prog 32 8 := ⟨by kernel_rfl⟩
instance : AG Try.prog 32 false := ⟨by kernel_rfl⟩
instance : ZV Try.prog 32 ([.nilFunc]) := ⟨by kernel_rfl⟩
-- 33: func() bool
instance : SZ Try.prog 33 1 := ⟨by kernel_rfl⟩
instance : BY Try.prog 33 8 := ⟨by kernel_rfl⟩
instance : AG Try.prog 33 false := ⟨by kernel_rfl⟩
instance : ZV Try.prog 33 ([.nilFunc]) := ⟨by kernel_rfl⟩
-- 35: func(int) (api.Msg, bool)
instance : SZ Try.prog 35 1 := ⟨by kernel_rfl⟩
instance : BY Try.prog 35 8 := ⟨by kernel_rfl⟩
instance : AG Try.prog 35 false := ⟨by kernel_rfl⟩
instance : ZV Try.prog 35 ([.nilFunc]) := ⟨by kernel_rfl⟩
-- 36: func(int, int) bool
instance : SZ Try.prog 36 1 := ⟨by kernel_rfl⟩
instance : BY Try.prog 36 8 := ⟨by kernel_rfl⟩
instance : AG Try.prog 36 false := ⟨by kernel_rfl⟩
instance : ZV Try.prog 36 ([.nilFunc]) := ⟨by kernel_rfl⟩
-- 37: []seneschallaw13.Act
instance : SZ Try.prog 37 1 := ⟨by kernel_rfl⟩
instance : BY Try.prog 37 24 := ⟨by kernel_rfl⟩
instance : AG Try.prog 37 false := ⟨by kernel_rfl⟩
instance : EL Try.prog 37 45 := ⟨by kernel_rfl⟩
instance : NI Try.prog 37 := ⟨by kernel_rfl⟩
instance : ZZ Try.prog 37 (.slice none 0 0) := ⟨by kernel_rfl⟩
instance : ZV Try.prog 37 ([.slice none 0 0]) := ⟨by kernel_rfl⟩
-- 38: func([]seneschallaw13.Act) bool
instance : SZ Try.prog 38 1 := ⟨by kernel_rfl⟩
instance : BY Try.prog 38 8 := ⟨by kernel_rfl⟩
instance : AG Try.prog 38 false := ⟨by kernel_rfl⟩
instance : ZV Try.prog 38 ([.nilFunc]) := ⟨by kernel_rfl⟩
-- 39: *seneschalref13.Bag
instance : SZ Try.prog 39 1 := ⟨by kernel_rfl⟩
instance : BY Try.prog 39 8 := ⟨by kernel_rfl⟩
instance : AG Try.prog 39 false := ⟨by kernel_rfl⟩
instance : PT Try.prog 39 42 := ⟨by kernel_rfl⟩
instance : ZZ Try.prog 39 (.pointer none) := ⟨by kernel_rfl⟩
instance : ZV Try.prog 39 ([.pointer none]) := ⟨by kernel_rfl⟩
-- 40: []api.Msg
instance : SZ Try.prog 40 1 := ⟨by kernel_rfl⟩
instance : BY Try.prog 40 24 := ⟨by kernel_rfl⟩
instance : AG Try.prog 40 false := ⟨by kernel_rfl⟩
instance : EL Try.prog 40 30 := ⟨by kernel_rfl⟩
instance : NI Try.prog 40 := ⟨by kernel_rfl⟩
instance : ZZ Try.prog 40 (.slice none 0 0) := ⟨by kernel_rfl⟩
instance : ZV Try.prog 40 ([.slice none 0 0]) := ⟨by kernel_rfl⟩
-- 41: struct { M []api.Msg; N int }
instance : SZ Try.prog 41 2 := ⟨by kernel_rfl⟩
instance : BY Try.prog 41 32 := ⟨by kernel_rfl⟩
instance : AG Try.prog 41 true := ⟨by kernel_rfl⟩
instance : FS Try.prog 41 := ⟨by kernel_rfl⟩
instance : FT Try.prog 41 0 40 := ⟨by kernel_rfl⟩
instance : FO Try.prog 41 0 0 1 := ⟨by kernel_rfl, rfl⟩
instance : FT Try.prog 41 1 3 := ⟨by kernel_rfl⟩
instance : FO Try.prog 41 1 1 1 := ⟨by kernel_rfl, rfl⟩
instance : ZZ Try.prog 41 (.agg [.slice none 0 0, .int .i64 0].toArray) := ⟨by kernel_rfl⟩
instance : ZV Try.prog 41 ([.slice none 0 0, .int .i64 0]) := ⟨by kernel_rfl⟩
-- 42: seneschalref13.Bag
instance : SZ Try.prog 42 2 := ⟨by kernel_rfl⟩
instance : BY Try.prog 42 32 := ⟨by kernel_rfl⟩
instance : AG Try.prog 42 true := ⟨by kernel_rfl⟩
instance : FS Try.prog 42 := ⟨by kernel_rfl⟩
instance : FT Try.prog 42 0 40 := ⟨by kernel_rfl⟩
instance : FO Try.prog 42 0 0 1 := ⟨by kernel_rfl, rfl⟩
instance : FT Try.prog 42 1 3 := ⟨by kernel_rfl⟩
instance : FO Try.prog 42 1 1 1 := ⟨by kernel_rfl, rfl⟩
instance : ZZ Try.prog 42 (.agg [.slice none 0 0, .int .i64 0].toArray) := ⟨by kernel_rfl⟩
instance : ZV Try.prog 42 ([.slice none 0 0, .int .i64 0]) := ⟨by kernel_rfl⟩
-- 43: func(*net.Bag, *seneschalref13.Bag, seneschallaw13.Act) bool
instance : SZ Try.prog 43 1 := ⟨by kernel_rfl⟩
instance : BY Try.prog 43 8 := ⟨by kernel_rfl⟩
instance : AG Try.prog 43 false := ⟨by kernel_rfl⟩
instance : ZV Try.prog 43 ([.nilFunc]) := ⟨by kernel_rfl⟩
-- 44: struct { Kind int; M api.Msg; N int; Times int }
instance : SZ Try.prog 44 42 := ⟨by kernel_rfl⟩
instance : BY Try.prog 44 144 := ⟨by kernel_rfl⟩
instance : AG Try.prog 44 true := ⟨by kernel_rfl⟩
instance : FS Try.prog 44 := ⟨by kernel_rfl⟩
instance : FT Try.prog 44 0 3 := ⟨by kernel_rfl⟩
instance : FO Try.prog 44 0 0 1 := ⟨by kernel_rfl, rfl⟩
instance : FT Try.prog 44 1 30 := ⟨by kernel_rfl⟩
instance : FO Try.prog 44 1 1 39 := ⟨by kernel_rfl, rfl⟩
instance : FT Try.prog 44 2 3 := ⟨by kernel_rfl⟩
instance : FO Try.prog 44 2 40 1 := ⟨by kernel_rfl, rfl⟩
instance : FT Try.prog 44 3 3 := ⟨by kernel_rfl⟩
instance : FO Try.prog 44 3 41 1 := ⟨by kernel_rfl, rfl⟩
instance : ZZ Try.prog 44 (.agg [.int .i64 0, .int .i64 0, .int .i64 0, .int .i64 0, .int .i64 0, .int .i64 0, .slice none 0 0, .slice none 0 0, .int .u8 0, .int .u8 0, .int .u8 0, .int .u8 0, .int .u8 0, .int .u8 0, .int .u8 0, .int .u8 0, .int .u8 0, .int .u8 0, .int .u8 0, .int .u8 0, .int .u8 0, .int .u8 0, .int .u8 0, .int .u8 0, .int .u8 0, .int .u8 0, .int .u8 0, .int .u8 0, .int .u8 0, .int .u8 0, .int .u8 0, .int .u8 0, .int .u8 0, .int .u8 0, .int .u8 0, .int .u8 0, .int .u8 0, .int .u8 0, .int .u8 0, .int .u8 0, .int .i64 0, .int .i64 0].toArray) := ⟨by kernel_rfl⟩
instance : ZV Try.prog 44 ([.int .i64 0, .int .i64 0, .int .i64 0, .int .i64 0, .int .i64 0, .int .i64 0, .slice none 0 0, .slice none 0 0] ++ (List.replicate 32 (.int .u8 0) ++ ([.int .i64 0, .int .i64 0]))) := ⟨by kernel_rfl⟩
-- 45: seneschallaw13.Act
instance : SZ Try.prog 45 42 := ⟨by kernel_rfl⟩
instance : BY Try.prog 45 144 := ⟨by kernel_rfl⟩
instance : AG Try.prog 45 true := ⟨by kernel_rfl⟩
instance : FS Try.prog 45 := ⟨by kernel_rfl⟩
instance : FT Try.prog 45 0 3 := ⟨by kernel_rfl⟩
instance : FO Try.prog 45 0 0 1 := ⟨by kernel_rfl, rfl⟩
instance : FT Try.prog 45 1 30 := ⟨by kernel_rfl⟩
instance : FO Try.prog 45 1 1 39 := ⟨by kernel_rfl, rfl⟩
instance : FT Try.prog 45 2 3 := ⟨by kernel_rfl⟩
instance : FO Try.prog 45 2 40 1 := ⟨by kernel_rfl, rfl⟩
instance : FT Try.prog 45 3 3 := ⟨by kernel_rfl⟩
instance : FO Try.prog 45 3 41 1 := ⟨by kernel_rfl, rfl⟩
instance : ZZ Try.prog 45 (.agg [.int .i64 0, .int .i64 0, .int .i64 0, .int .i64 0, .int .i64 0, .int .i64 0, .slice none 0 0, .slice none 0 0, .int .u8 0, .int .u8 0, .int .u8 0, .int .u8 0, .int .u8 0, .int .u8 0, .int .u8 0, .int .u8 0, .int .u8 0, .int .u8 0, .int .u8 0, .int .u8 0, .int .u8 0, .int .u8 0, .int .u8 0, .int .u8 0, .int .u8 0, .int .u8 0, .int .u8 0, .int .u8 0, .int .u8 0, .int .u8 0, .int .u8 0, .int .u8 0, .int .u8 0, .int .u8 0, .int .u8 0, .int .u8 0, .int .u8 0, .int .u8 0, .int .u8 0, .int .u8 0, .int .i64 0, .int .i64 0].toArray) := ⟨by kernel_rfl⟩
instance : ZV Try.prog 45 ([.int .i64 0, .int .i64 0, .int .i64 0, .int .i64 0, .int .i64 0, .int .i64 0, .slice none 0 0, .slice none 0 0] ++ (List.replicate 32 (.int .u8 0) ++ ([.int .i64 0, .int .i64 0]))) := ⟨by kernel_rfl⟩
-- 46: func(api.Msg, api.Msg) bool
instance : SZ Try.prog 46 1 := ⟨by kernel_rfl⟩
instance : BY Try.prog 46 8 := ⟨by kernel_rfl⟩
instance : AG Try.prog 46 false := ⟨by kernel_rfl⟩
instance : ZV Try.prog 46 ([.nilFunc]) := ⟨by kernel_rfl⟩
-- 47: struct { Kind int; Slot int; View int; Sum api.Hash; From in
instance : SZ Try.prog 47 68 := ⟨by kernel_rfl⟩
instance : BY Try.prog 47 96 := ⟨by kernel_rfl⟩
instance : AG Try.prog 47 true := ⟨by kernel_rfl⟩
instance : FS Try.prog 47 := ⟨by kernel_rfl⟩
instance : FT Try.prog 47 0 3 := ⟨by kernel_rfl⟩
instance : FO Try.prog 47 0 0 1 := ⟨by kernel_rfl, rfl⟩
instance : FT Try.prog 47 1 3 := ⟨by kernel_rfl⟩
instance : FO Try.prog 47 1 1 1 := ⟨by kernel_rfl, rfl⟩
instance : FT Try.prog 47 2 3 := ⟨by kernel_rfl⟩
instance : FO Try.prog 47 2 2 1 := ⟨by kernel_rfl, rfl⟩
instance : FT Try.prog 47 3 28 := ⟨by kernel_rfl⟩
instance : FO Try.prog 47 3 3 32 := ⟨by kernel_rfl, rfl⟩
instance : FT Try.prog 47 4 3 := ⟨by kernel_rfl⟩
instance : FO Try.prog 47 4 35 1 := ⟨by kernel_rfl, rfl⟩
instance : FT Try.prog 47 5 28 := ⟨by kernel_rfl⟩
instance : FO Try.prog 47 5 36 32 := ⟨by kernel_rfl, rfl⟩
instance : ZV Try.prog 47 ([.int .i64 0, .int .i64 0, .int .i64 0] ++ (List.replicate 32 (.int .u8 0) ++ ([.int .i64 0] ++ (List.replicate 32 (.int .u8 0))))) := ⟨by kernel_rfl⟩
-- 48: api.Vote
instance : SZ Try.prog 48 68 := ⟨by kernel_rfl⟩
instance : BY Try.prog 48 96 := ⟨by kernel_rfl⟩
instance : AG Try.prog 48 true := ⟨by kernel_rfl⟩
instance : FS Try.prog 48 := ⟨by kernel_rfl⟩
instance : FT Try.prog 48 0 3 := ⟨by kernel_rfl⟩
instance : FO Try.prog 48 0 0 1 := ⟨by kernel_rfl, rfl⟩
instance : FT Try.prog 48 1 3 := ⟨by kernel_rfl⟩
instance : FO Try.prog 48 1 1 1 := ⟨by kernel_rfl, rfl⟩
instance : FT Try.prog 48 2 3 := ⟨by kernel_rfl⟩
instance : FO Try.prog 48 2 2 1 := ⟨by kernel_rfl, rfl⟩
instance : FT Try.prog 48 3 28 := ⟨by kernel_rfl⟩
instance : FO Try.prog 48 3 3 32 := ⟨by kernel_rfl, rfl⟩
instance : FT Try.prog 48 4 3 := ⟨by kernel_rfl⟩
instance : FO Try.prog 48 4 35 1 := ⟨by kernel_rfl, rfl⟩
instance : FT Try.prog 48 5 28 := ⟨by kernel_rfl⟩
instance : FO Try.prog 48 5 36 32 := ⟨by kernel_rfl, rfl⟩
instance : ZV Try.prog 48 ([.int .i64 0, .int .i64 0, .int .i64 0] ++ (List.replicate 32 (.int .u8 0) ++ ([.int .i64 0] ++ (List.replicate 32 (.int .u8 0))))) := ⟨by kernel_rfl⟩
-- 49: func(api.Msg) bool
instance : SZ Try.prog 49 1 := ⟨by kernel_rfl⟩
instance : BY Try.prog 49 8 := ⟨by kernel_rfl⟩
instance : AG Try.prog 49 false := ⟨by kernel_rfl⟩
instance : ZV Try.prog 49 ([.nilFunc]) := ⟨by kernel_rfl⟩
-- 50: []int
instance : SZ Try.prog 50 1 := ⟨by kernel_rfl⟩
instance : BY Try.prog 50 24 := ⟨by kernel_rfl⟩
instance : AG Try.prog 50 false := ⟨by kernel_rfl⟩
instance : EL Try.prog 50 3 := ⟨by kernel_rfl⟩
instance : NI Try.prog 50 := ⟨by kernel_rfl⟩
instance : ZZ Try.prog 50 (.slice none 0 0) := ⟨by kernel_rfl⟩
instance : ZV Try.prog 50 ([.slice none 0 0]) := ⟨by kernel_rfl⟩
-- 51: func(int, []int) bool
instance : SZ Try.prog 51 1 := ⟨by kernel_rfl⟩
instance : BY Try.prog 51 8 := ⟨by kernel_rfl⟩
instance : AG Try.prog 51 false := ⟨by kernel_rfl⟩
instance : ZV Try.prog 51 ([.nilFunc]) := ⟨by kernel_rfl⟩
-- 52: struct { l []api.Msg; most int }
instance : SZ Try.prog 52 2 := ⟨by kernel_rfl⟩
instance : BY Try.prog 52 32 := ⟨by kernel_rfl⟩
instance : AG Try.prog 52 true := ⟨by kernel_rfl⟩
instance : FS Try.prog 52 := ⟨by kernel_rfl⟩
instance : FT Try.prog 52 0 40 := ⟨by kernel_rfl⟩
instance : FO Try.prog 52 0 0 1 := ⟨by kernel_rfl, rfl⟩
instance : FT Try.prog 52 1 3 := ⟨by kernel_rfl⟩
instance : FO Try.prog 52 1 1 1 := ⟨by kernel_rfl, rfl⟩
instance : ZZ Try.prog 52 (.agg [.slice none 0 0, .int .i64 0].toArray) := ⟨by kernel_rfl⟩
instance : ZV Try.prog 52 ([.slice none 0 0, .int .i64 0]) := ⟨by kernel_rfl⟩
-- 53: net.row[seneschal/api.Msg]
instance : SZ Try.prog 53 2 := ⟨by kernel_rfl⟩
instance : BY Try.prog 53 32 := ⟨by kernel_rfl⟩
instance : AG Try.prog 53 true := ⟨by kernel_rfl⟩
instance : FS Try.prog 53 := ⟨by kernel_rfl⟩
instance : FT Try.prog 53 0 40 := ⟨by kernel_rfl⟩
instance : FO Try.prog 53 0 0 1 := ⟨by kernel_rfl, rfl⟩
instance : FT Try.prog 53 1 3 := ⟨by kernel_rfl⟩
instance : FO Try.prog 53 1 1 1 := ⟨by kernel_rfl, rfl⟩
instance : ZZ Try.prog 53 (.agg [.slice none 0 0, .int .i64 0].toArray) := ⟨by kernel_rfl⟩
instance : ZV Try.prog 53 ([.slice none 0 0, .int .i64 0]) := ⟨by kernel_rfl⟩
-- 54: struct { r net.row[seneschal/api.Msg]; lost int }
instance : SZ Try.prog 54 3 := ⟨by kernel_rfl⟩
instance : BY Try.prog 54 40 := ⟨by kernel_rfl⟩
instance : AG Try.prog 54 true := ⟨by kernel_rfl⟩
instance : FS Try.prog 54 := ⟨by kernel_rfl⟩
instance : FT Try.prog 54 0 53 := ⟨by kernel_rfl⟩
instance : FO Try.prog 54 0 0 2 := ⟨by kernel_rfl, rfl⟩
instance : FT Try.prog 54 1 3 := ⟨by kernel_rfl⟩
instance : FO Try.prog 54 1 2 1 := ⟨by kernel_rfl, rfl⟩
instance : ZZ Try.prog 54 (.agg [.slice none 0 0, .int .i64 0, .int .i64 0].toArray) := ⟨by kernel_rfl⟩
instance : ZV Try.prog 54 ([.slice none 0 0, .int .i64 0, .int .i64 0]) := ⟨by kernel_rfl⟩
-- 55: net.Bag
instance : SZ Try.prog 55 3 := ⟨by kernel_rfl⟩
instance : BY Try.prog 55 40 := ⟨by kernel_rfl⟩
instance : AG Try.prog 55 true := ⟨by kernel_rfl⟩
instance : FS Try.prog 55 := ⟨by kernel_rfl⟩
instance : FT Try.prog 55 0 53 := ⟨by kernel_rfl⟩
instance : FO Try.prog 55 0 0 2 := ⟨by kernel_rfl, rfl⟩
instance : FT Try.prog 55 1 3 := ⟨by kernel_rfl⟩
instance : FO Try.prog 55 1 2 1 := ⟨by kernel_rfl, rfl⟩
instance : ZZ Try.prog 55 (.agg [.slice none 0 0, .int .i64 0, .int .i64 0].toArray) := ⟨by kernel_rfl⟩
instance : ZV Try.prog 55 ([.slice none 0 0, .int .i64 0, .int .i64 0]) := ⟨by kernel_rfl⟩
-- 56: func(api.Msg) api.Msg
instance : SZ Try.prog 56 1 := ⟨by kernel_rfl⟩
instance : BY Try.prog 56 8 := ⟨by kernel_rfl⟩
instance : AG Try.prog 56 false := ⟨by kernel_rfl⟩
instance : ZV Try.prog 56 ([.nilFunc]) := ⟨by kernel_rfl⟩
-- 57: func([]api.Msg) int
instance : SZ Try.prog 57 1 := ⟨by kernel_rfl⟩
instance : BY Try.prog 57 8 := ⟨by kernel_rfl⟩
instance : AG Try.prog 57 false := ⟨by kernel_rfl⟩
instance : ZV Try.prog 57 ([.nilFunc]) := ⟨by kernel_rfl⟩
-- 58: func([]api.Vote, []api.Vote) bool
instance : SZ Try.prog 58 1 := ⟨by kernel_rfl⟩
instance : BY Try.prog 58 8 := ⟨by kernel_rfl⟩
instance : AG Try.prog 58 false := ⟨by kernel_rfl⟩
instance : ZV Try.prog 58 ([.nilFunc]) := ⟨by kernel_rfl⟩
-- 59: *net.row[seneschal/api.Msg]
instance : SZ Try.prog 59 1 := ⟨by kernel_rfl⟩
instance : BY Try.prog 59 8 := ⟨by kernel_rfl⟩
instance : AG Try.prog 59 false := ⟨by kernel_rfl⟩
instance : PT Try.prog 59 53 := ⟨by kernel_rfl⟩
instance : ZZ Try.prog 59 (.pointer none) := ⟨by kernel_rfl⟩
instance : ZV Try.prog 59 ([.pointer none]) := ⟨by kernel_rfl⟩
-- 60: func([]uint8) []uint8
instance : SZ Try.prog 60 1 := ⟨by kernel_rfl⟩
instance : BY Try.prog 60 8 := ⟨by kernel_rfl⟩
instance : AG Try.prog 60 false := ⟨by kernel_rfl⟩
instance : ZV Try.prog 60 ([.nilFunc]) := ⟨by kernel_rfl⟩
-- 61: func([]api.Vote) []api.Vote
instance : SZ Try.prog 61 1 := ⟨by kernel_rfl⟩
instance : BY Try.prog 61 8 := ⟨by kernel_rfl⟩
instance : AG Try.prog 61 false := ⟨by kernel_rfl⟩
instance : ZV Try.prog 61 ([.nilFunc]) := ⟨by kernel_rfl⟩
-- 62: func([]api.Msg, int, int) []api.Msg
instance : SZ Try.prog 62 1 := ⟨by kernel_rfl⟩
instance : BY Try.prog 62 8 := ⟨by kernel_rfl⟩
instance : AG Try.prog 62 false := ⟨by kernel_rfl⟩
instance : ZV Try.prog 62 ([.nilFunc]) := ⟨by kernel_rfl⟩
-- 63: func() string
instance : SZ Try.prog 63 1 := ⟨by kernel_rfl⟩
instance : BY Try.prog 63 8 := ⟨by kernel_rfl⟩
instance : AG Try.prog 63 false := ⟨by kernel_rfl⟩
instance : ZV Try.prog 63 ([.nilFunc]) := ⟨by kernel_rfl⟩
-- 66: [0]*runtime.PanicNilError
instance : SZ Try.prog 66 0 := ⟨by kernel_rfl⟩
instance : BY Try.prog 66 0 := ⟨by kernel_rfl⟩
instance : AG Try.prog 66 true := ⟨by kernel_rfl⟩
instance : AR Try.prog 66 0 16 := ⟨by kernel_rfl⟩
instance : ZV Try.prog 66 ([]) := ⟨by kernel_rfl⟩
-- 69: uint32
instance : SZ Try.prog 69 1 := ⟨by kernel_rfl⟩
instance : BY Try.prog 69 4 := ⟨by kernel_rfl⟩
instance : AG Try.prog 69 false := ⟨by kernel_rfl⟩
instance : IK Try.prog 69 .u32 := ⟨by kernel_rfl⟩
instance : ZZ Try.prog 69 (.int .u32 0) := ⟨by kernel_rfl⟩
instance : ZV Try.prog 69 ([.int .u32 0]) := ⟨by kernel_rfl⟩
-- 72: func(unsafe.Pointer, unsafe.Pointer) bool
instance : SZ Try.prog 72 1 := ⟨by kernel_rfl⟩
instance : BY Try.prog 72 8 := ⟨by kernel_rfl⟩
instance : AG Try.prog 72 false := ⟨by kernel_rfl⟩
instance : ZV Try.prog 72 ([.nilFunc]) := ⟨by kernel_rfl⟩
-- 73: *uint8
instance : SZ Try.prog 73 1 := ⟨by kernel_rfl⟩
instance : BY Try.prog 73 8 := ⟨by kernel_rfl⟩
instance : AG Try.prog 73 false := ⟨by kernel_rfl⟩
instance : PT Try.prog 73 5 := ⟨by kernel_rfl⟩
instance : ZZ Try.prog 73 (.pointer none) := ⟨by kernel_rfl⟩
instance : ZV Try.prog 73 ([.pointer none]) := ⟨by kernel_rfl⟩
end Go.Proofs.Ytmeaekcengmfbaa
