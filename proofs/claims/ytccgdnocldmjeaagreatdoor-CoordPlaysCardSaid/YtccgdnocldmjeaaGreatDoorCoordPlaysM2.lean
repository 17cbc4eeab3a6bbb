/- Walks, rules and plain laws on which the claim stands, joined: the program's functions as they compute, one after the other. -/
import Derived.Orders
import Derived.Below
import Derived.Tactics
import Derived.Laws.AppendOwn
import Derived.Laws.CopyRow
import Derived.Laws.ResultCell
import Derived.Laws.Slices
import Derived.Laws.Small
import Derived.Laws.StructEq
import Derived.Laws.Pointers
import Derived.Laws.Unary
import Derived.Laws.Cells
import Derived.OrdersIn
import Derived.RangeFuncRecord
import Derived.RangeFuncIn
import Derived.RangeFuncCalls
import Derived.RangeFuncNested
import Derived.Laws.Cover3
import Derived.Laws.BytesString
import Derived.Laws.Strings
import Derived.Test.YtccgdnocldmjeaaGreatDoorProg
import Derived.KernelRfl
import Derived.DeepKeys
import Derived.Laws.IdiomStrings
import Derived.OpenShut
import Derived.ChangeSlices
import Derived.DataElems
import Derived.Handed
import Derived.Laws.Shifts
import Derived.Laws.BitsAllLaws
import Derived.Test.YtccgdnocldmjeaaGreatDoorRows
import Derived.WalkKit
import Derived.ProofKit
import Derived.ShutString
import Derived.ChangeOld
import Derived.Lay
import Derived.MakeChecks
import Derived.SevenTiedAt
import Derived.Test.YtccgdnocldmjeaaGreatDoorCoordPlaysM1
namespace Go.Proofs.YtccgdnocldmjeaaGreatDoor
open Go
-- 1: func()
-- 2: int64
-- 3: int
instance : SZ Tryz.prog 3 1 := ⟨by kernel_rfl⟩
instance : BY Tryz.prog 3 8 := ⟨by kernel_rfl⟩
instance : AG Tryz.prog 3 false := ⟨by kernel_rfl⟩
instance : IK Tryz.prog 3 .i64 := ⟨by kernel_rfl⟩
instance : ZV Tryz.prog 3 ([.int .i64 0]) := ⟨by kernel_rfl⟩
-- 4: bool
instance : SZ Tryz.prog 4 1 := ⟨by kernel_rfl⟩
instance : AG Tryz.prog 4 false := ⟨by kernel_rfl⟩
instance : BL Tryz.prog 4 := ⟨by kernel_rfl⟩
instance : ZZ Tryz.prog 4 (.bool false) := ⟨by kernel_rfl⟩
instance : ZV Tryz.prog 4 ([.bool false]) := ⟨by kernel_rfl⟩
-- 5: uint8
instance : SZ Tryz.prog 5 1 := ⟨by kernel_rfl⟩
instance : BY Tryz.prog 5 1 := ⟨by kernel_rfl⟩
instance : AG Tryz.prog 5 false := ⟨by kernel_rfl⟩
instance : IK Tryz.prog 5 .u8 := ⟨by kernel_rfl⟩
instance : ZV Tryz.prog 5 ([.int .u8 0]) := ⟨by kernel_rfl⟩
-- 9: string
instance : SZ Tryz.prog 9 1 := ⟨by kernel_rfl⟩
instance : AG Tryz.prog 9 false := ⟨by kernel_rfl⟩
instance : ST Tryz.prog 9 := ⟨by kernel_rfl⟩
-- 12: uintptr
-- 13: struct { msg string; addr uintptr }
-- 20: interface {}
-- 21: int32
-- 22: []api.Op
instance : EL Tryz.prog 22 38 := ⟨by kernel_rfl⟩
-- 23: func([]api.Op) bool
-- 24: *coord.Coord
instance : AG Tryz.prog 24 false := ⟨by kernel_rfl⟩
instance : PT Tryz.prog 24 48 := ⟨by kernel_rfl⟩
-- 25: func() *coord.Coord
-- 26: *seneschalref10.Coord
-- 27: []seneschalref10.producer
instance : SZ Tryz.prog 27 1 := ⟨by kernel_rfl⟩
instance : AG Tryz.prog 27 false := ⟨by kernel_rfl⟩
instance : EL Tryz.prog 27 92 := ⟨by kernel_rfl⟩
instance : NI Tryz.prog 27 := ⟨by kernel_rfl⟩
-- 28: []api.Mark
instance : SZ Tryz.prog 28 1 := ⟨by kernel_rfl⟩
instance : AG Tryz.prog 28 false := ⟨by kernel_rfl⟩
instance : EL Tryz.prog 28 61 := ⟨by kernel_rfl⟩
instance : NI Tryz.prog 28 := ⟨by kernel_rfl⟩
instance : ZV Tryz.prog 28 ([.slice none 0 0]) := ⟨by kernel_rfl⟩
-- 29: []seneschalref10.done
instance : SZ Tryz.prog 29 1 := ⟨by kernel_rfl⟩
instance : AG Tryz.prog 29 false := ⟨by kernel_rfl⟩
instance : EL Tryz.prog 29 59 := ⟨by kernel_rfl⟩
instance : NI Tryz.prog 29 := ⟨by kernel_rfl⟩
-- 30: struct { p []seneschalref10.producer; M []api.Mark; N int; d
-- 31: seneschalref10.Coord
instance : FS Tryz.prog 31 := ⟨by kernel_rfl⟩
instance : FO Tryz.prog 31 0 0 1 := ⟨by kernel_rfl, rfl⟩
instance : FO Tryz.prog 31 1 1 1 := ⟨by kernel_rfl, rfl⟩
instance : FO Tryz.prog 31 2 2 1 := ⟨by kernel_rfl, rfl⟩
instance : FO Tryz.prog 31 3 3 1 := ⟨by kernel_rfl, rfl⟩
instance : ZV Tryz.prog 31 ([.slice none 0 0, .slice none 0 0, .int .i64 0, .slice none 0 0]) := ⟨by kernel_rfl⟩
-- 32: api.Errno
instance : AG Tryz.prog 32 false := ⟨by kernel_rfl⟩
-- 33: struct { Err api.Errno; Producer int; Epoch int }
-- 34: api.Reply
instance : SZ Tryz.prog 34 3 := ⟨by kernel_rfl⟩
instance : AG Tryz.prog 34 true := ⟨by kernel_rfl⟩
instance : FS Tryz.prog 34 := ⟨by kernel_rfl⟩
instance : FO Tryz.prog 34 0 0 1 := ⟨by kernel_rfl, rfl⟩
instance : FO Tryz.prog 34 1 1 1 := ⟨by kernel_rfl, rfl⟩
instance : FO Tryz.prog 34 2 2 1 := ⟨by kernel_rfl, rfl⟩
instance : ZZ Tryz.prog 34 (.agg [.int .i64 0, .int .i64 0, .int .i64 0].toArray) := ⟨by kernel_rfl⟩
instance : ZV Tryz.prog 34 ([.int .i64 0, .int .i64 0, .int .i64 0]) := ⟨by kernel_rfl⟩
-- 36: func(api.Op) (api.Reply, []api.Mark)
-- 37: struct { Kind int; Client int; Seq int; Name string; Produce
-- 38: api.Op
instance : SZ Tryz.prog 38 9 := ⟨by kernel_rfl⟩
instance : AG Tryz.prog 38 true := ⟨by kernel_rfl⟩
instance : FS Tryz.prog 38 := ⟨by kernel_rfl⟩
instance : FT Tryz.prog 38 0 3 := ⟨by kernel_rfl⟩
instance : FO Tryz.prog 38 0 0 1 := ⟨by kernel_rfl, rfl⟩
instance : FT Tryz.prog 38 1 3 := ⟨by kernel_rfl⟩
instance : FO Tryz.prog 38 1 1 1 := ⟨by kernel_rfl, rfl⟩
instance : FT Tryz.prog 38 2 3 := ⟨by kernel_rfl⟩
instance : FO Tryz.prog 38 2 2 1 := ⟨by kernel_rfl, rfl⟩
instance : FT Tryz.prog 38 3 9 := ⟨by kernel_rfl⟩
instance : FO Tryz.prog 38 3 3 1 := ⟨by kernel_rfl, rfl⟩
instance : FT Tryz.prog 38 4 3 := ⟨by kernel_rfl⟩
instance : FO Tryz.prog 38 4 4 1 := ⟨by kernel_rfl, rfl⟩
instance : FT Tryz.prog 38 5 3 := ⟨by kernel_rfl⟩
instance : FO Tryz.prog 38 5 5 1 := ⟨by kernel_rfl, rfl⟩
instance : FT Tryz.prog 38 6 3 := ⟨by kernel_rfl⟩
instance : FO Tryz.prog 38 6 6 1 := ⟨by kernel_rfl, rfl⟩
instance : FT Tryz.prog 38 7 3 := ⟨by kernel_rfl⟩
instance : FO Tryz.prog 38 7 7 1 := ⟨by kernel_rfl, rfl⟩
instance : FT Tryz.prog 38 8 4 := ⟨by kernel_rfl⟩
instance : FO Tryz.prog 38 8 8 1 := ⟨by kernel_rfl, rfl⟩
instance : ZV Tryz.prog 38 ([.int .i64 0, .int .i64 0, .int .i64 0, .string (ByteArray.mk #[]), .int .i64 0, .int .i64 0, .int .i64 0, .int .i64 0, .bool false]) := ⟨by kernel_rfl⟩
-- 39: func([]api.Mark, []api.Mark) bool
-- 40: func(*coord.Coord, *seneschalref10.Coord) bool
-- 41: func() bool
-- 42: *hold.Table[*seneschal/coord.producer]
instance : AG Tryz.prog 42 false := ⟨by kernel_rfl⟩
instance : PT Tryz.prog 42 74 := ⟨by kernel_rfl⟩
-- 43: func() *hold.Table[*seneschal/coord.producer]
-- 44: *coord.producer
instance : SZ Tryz.prog 44 1 := ⟨by kernel_rfl⟩
instance : AG Tryz.prog 44 false := ⟨by kernel_rfl⟩
instance : PT Tryz.prog 44 84 := ⟨by kernel_rfl⟩
instance : ZZ Tryz.prog 44 (.pointer none) := ⟨by kernel_rfl⟩
instance : ZV Tryz.prog 44 ([.pointer none]) := ⟨by kernel_rfl⟩
-- 45: map[api.Mark]bool
instance : AG Tryz.prog 45 false := ⟨by kernel_rfl⟩
instance : MP Tryz.prog 45 61 4 := ⟨by kernel_rfl⟩
-- 46: map[coord.asked]api.Reply
instance : AG Tryz.prog 46 false := ⟨by kernel_rfl⟩
instance : MP Tryz.prog 46 53 34 := ⟨by kernel_rfl⟩
-- 47: struct { l *hold.Table[*seneschal/coord.producer]; marks []a
-- 48: coord.Coord
instance : FS Tryz.prog 48 := ⟨by kernel_rfl⟩
instance : FO Tryz.prog 48 0 0 1 := ⟨by kernel_rfl, rfl⟩
instance : FO Tryz.prog 48 1 1 1 := ⟨by kernel_rfl, rfl⟩
instance : FO Tryz.prog 48 2 2 1 := ⟨by kernel_rfl, rfl⟩
instance : FO Tryz.prog 48 3 3 1 := ⟨by kernel_rfl, rfl⟩
instance : FO Tryz.prog 48 4 4 1 := ⟨by kernel_rfl, rfl⟩
instance : ZV Tryz.prog 48 ([.pointer none, .slice none 0 0, .map none, .map none, .int .i64 0]) := ⟨by kernel_rfl⟩
-- 49: []uint8
instance : SZ Tryz.prog 49 1 := ⟨by kernel_rfl⟩
instance : AG Tryz.prog 49 false := ⟨by kernel_rfl⟩
instance : EL Tryz.prog 49 5 := ⟨by kernel_rfl⟩
instance : NI Tryz.prog 49 := ⟨by kernel_rfl⟩
instance : ZV Tryz.prog 49 ([.slice none 0 0]) := ⟨by kernel_rfl⟩
-- 51: func(api.Op) ([]uint8, api.Errno)
-- 52: struct { client int; seq int }
-- 53: coord.asked
instance : SZ Tryz.prog 53 2 := ⟨by kernel_rfl⟩
instance : AG Tryz.prog 53 true := ⟨by kernel_rfl⟩
instance : FS Tryz.prog 53 := ⟨by kernel_rfl⟩
instance : FO Tryz.prog 53 0 0 1 := ⟨by kernel_rfl, rfl⟩
instance : FO Tryz.prog 53 1 1 1 := ⟨by kernel_rfl, rfl⟩
instance : ZV Tryz.prog 53 ([.int .i64 0, .int .i64 0]) := ⟨by kernel_rfl⟩
-- 55: func(api.Op) bool
-- 56: func(int, int) (api.Reply, bool)
-- 57: func(api.Op) api.Reply
-- 58: struct { client int; seq int; r api.Reply }
-- 59: seneschalref10.done
instance : SZ Tryz.prog 59 5 := ⟨by kernel_rfl⟩
instance : BY Tryz.prog 59 40 := ⟨by kernel_rfl⟩
instance : FS Tryz.prog 59 := ⟨by kernel_rfl⟩
instance : FO Tryz.prog 59 0 0 1 := ⟨by kernel_rfl, rfl⟩
instance : FO Tryz.prog 59 1 1 1 := ⟨by kernel_rfl, rfl⟩
instance : FO Tryz.prog 59 2 2 3 := ⟨by kernel_rfl, rfl⟩
instance : ZV Tryz.prog 59 ([.int .i64 0, .int .i64 0, .int .i64 0, .int .i64 0, .int .i64 0]) := ⟨by kernel_rfl⟩
-- 60: struct { Kind int; Producer int; Epoch int; Txn int }
-- 61: api.Mark
instance : SZ Tryz.prog 61 4 := ⟨by kernel_rfl⟩
instance : BY Tryz.prog 61 32 := ⟨by kernel_rfl⟩
instance : AG Tryz.prog 61 true := ⟨by kernel_rfl⟩
instance : FS Tryz.prog 61 := ⟨by kernel_rfl⟩
instance : FO Tryz.prog 61 0 0 1 := ⟨by kernel_rfl, rfl⟩
instance : FO Tryz.prog 61 1 1 1 := ⟨by kernel_rfl, rfl⟩
instance : FO Tryz.prog 61 2 2 1 := ⟨by kernel_rfl, rfl⟩
instance : FO Tryz.prog 61 3 3 1 := ⟨by kernel_rfl, rfl⟩
instance : ZV Tryz.prog 61 ([.int .i64 0, .int .i64 0, .int .i64 0, .int .i64 0]) := ⟨by kernel_rfl⟩
-- 62: func() []api.Mark
-- 63: func() int
-- 64: [32]uint8
-- 65: api.Hash
instance : SZ Tryz.prog 65 32 := ⟨by kernel_rfl⟩
instance : AG Tryz.prog 65 true := ⟨by kernel_rfl⟩
instance : AR Tryz.prog 65 32 5 := ⟨by kernel_rfl⟩
instance : ZV Tryz.prog 65 (List.replicate 32 (.int .u8 0)) := ⟨by kernel_rfl⟩
-- 66: func() api.Hash
-- 68: func(int) (int, bool)
-- 69: []int
instance : SZ Tryz.prog 69 1 := ⟨by kernel_rfl⟩
instance : AG Tryz.prog 69 false := ⟨by kernel_rfl⟩
instance : EL Tryz.prog 69 3 := ⟨by kernel_rfl⟩
instance : NI Tryz.prog 69 := ⟨by kernel_rfl⟩
-- 71: func(int) (int, []int, bool)
-- 72: map[int]*coord.producer
instance : AG Tryz.prog 72 false := ⟨by kernel_rfl⟩
instance : MP Tryz.prog 72 3 44 := ⟨by kernel_rfl⟩
-- 73: struct { m map[int]*coord.producer }
-- 74: hold.Table[*seneschal/coord.producer]
instance : FS Tryz.prog 74 := ⟨by kernel_rfl⟩
instance : FO Tryz.prog 74 0 0 1 := ⟨by kernel_rfl, rfl⟩
instance : ZV Tryz.prog 74 ([.map none]) := ⟨by kernel_rfl⟩
-- 75: struct { b []uint8 }
-- 76: octet.Writer
instance : FO Tryz.prog 76 0 0 1 := ⟨by kernel_rfl, rfl⟩
instance : ZV Tryz.prog 76 ([.slice none 0 0]) := ⟨by kernel_rfl⟩
-- 77: func(...int)
-- 78: func(...[]uint8)
-- 79: func() []uint8
-- 81: func(int) (*coord.producer, bool)
-- 82: map[int]bool
instance : SZ Tryz.prog 82 1 := ⟨by kernel_rfl⟩
instance : AG Tryz.prog 82 false := ⟨by kernel_rfl⟩
instance : MP Tryz.prog 82 3 4 := ⟨by kernel_rfl⟩
-- 83: struct { name string; epoch int; last int; open bool; parts
-- 84: coord.producer
instance : FS Tryz.prog 84 := ⟨by kernel_rfl⟩
instance : FO Tryz.prog 84 0 0 1 := ⟨by kernel_rfl, rfl⟩
instance : FO Tryz.prog 84 1 1 1 := ⟨by kernel_rfl, rfl⟩
instance : FO Tryz.prog 84 2 2 1 := ⟨by kernel_rfl, rfl⟩
instance : FO Tryz.prog 84 3 3 1 := ⟨by kernel_rfl, rfl⟩
instance : FO Tryz.prog 84 4 4 1 := ⟨by kernel_rfl, rfl⟩
instance : FO Tryz.prog 84 5 5 1 := ⟨by kernel_rfl, rfl⟩
instance : ZV Tryz.prog 84 ([.string (ByteArray.mk #[]), .int .i64 0, .int .i64 0, .bool false, .map none, .int .i64 0]) := ⟨by kernel_rfl⟩
-- 85: func(api.Op, *coord.producer) api.Errno
-- 87: func(api.Op, *coord.producer) (api.Errno, []api.Mark)
-- 88: func(int, int, int) bool
-- 89: func(string) bool
-- 90: func(string) api.Reply
-- 91: struct { name string; epoch int; last int; open bool; parts
-- 92: seneschalref10.producer
instance : SZ Tryz.prog 92 6 := ⟨by kernel_rfl⟩
instance : BY Tryz.prog 92 72 := ⟨by kernel_rfl⟩
instance : AG Tryz.prog 92 true := ⟨by kernel_rfl⟩
instance : FS Tryz.prog 92 := ⟨by kernel_rfl⟩
instance : FO Tryz.prog 92 0 0 1 := ⟨by kernel_rfl, rfl⟩
instance : FO Tryz.prog 92 1 1 1 := ⟨by kernel_rfl, rfl⟩
instance : FO Tryz.prog 92 2 2 1 := ⟨by kernel_rfl, rfl⟩
instance : FO Tryz.prog 92 3 3 1 := ⟨by kernel_rfl, rfl⟩
instance : FO Tryz.prog 92 4 4 1 := ⟨by kernel_rfl, rfl⟩
instance : FO Tryz.prog 92 5 5 1 := ⟨by kernel_rfl, rfl⟩
instance : ZV Tryz.prog 92 ([.string (ByteArray.mk #[]), .int .i64 0, .int .i64 0, .bool false, .slice none 0 0, .int .i64 0]) := ⟨by kernel_rfl⟩
-- 93: func(api.Op) api.Errno
-- 94: func([]api.Mark) []api.Mark
-- 95: func(api.Mark) ([]uint8, api.Errno)
-- 96: func([]uint8) api.Hash
-- 98: func(api.Mark) ([]uint8, int)
-- 99: func(int) *coord.producer
-- 100: func(iter.Seq[int]) []int
-- 101: func(func(int) bool)
-- 102: iter.Seq[int]
-- 103: func(map[int]bool) iter.Seq[int]
-- 104: func(string, string) string
-- 105: func(api.Op) api.Op
-- 106: *octet.Writer
instance : PT Tryz.prog 106 76 := ⟨by kernel_rfl⟩
-- 107: uint64
instance : IK Tryz.prog 107 .u64 := ⟨by kernel_rfl⟩
-- 108: uint
instance : IK Tryz.prog 108 .u64 := ⟨by kernel_rfl⟩
-- 109: [][]uint8
instance : EL Tryz.prog 109 49 := ⟨by kernel_rfl⟩
-- 110: func(...uint8)
-- 111: func([]uint8) []uint8
-- 113: func(string) (int, *coord.producer, bool)
-- 114: func(int, *coord.producer)
-- 115: func(int, *coord.producer, int) []api.Mark
-- 116: func(api.Mark) []api.Mark
-- 117: func(func(int, *coord.producer) bool)
-- 118: iter.Seq2[int,*seneschal/coord.producer]
-- 119: func() iter.Seq2[int,*seneschal/coord.producer]
-- 120: func(int, int)
-- 121: func(int, int, int)
-- 122: *seneschalref10.producer
-- 123: func(api.Mark) bool
-- 124: uint32
instance : SZ Tryz.prog 124 1 := ⟨by kernel_rfl⟩
instance : AG Tryz.prog 124 false := ⟨by kernel_rfl⟩
instance : IK Tryz.prog 124 .u32 := ⟨by kernel_rfl⟩
-- 125: [8]uint32
instance : SZ Tryz.prog 125 8 := ⟨by kernel_rfl⟩
instance : AG Tryz.prog 125 true := ⟨by kernel_rfl⟩
instance : AR Tryz.prog 125 8 124 := ⟨by kernel_rfl⟩
instance : ZV Tryz.prog 125 (List.replicate 8 (.int .u32 0)) := ⟨by kernel_rfl⟩
-- 126: digest.state
instance : SZ Tryz.prog 126 8 := ⟨by kernel_rfl⟩
instance : AG Tryz.prog 126 true := ⟨by kernel_rfl⟩
instance : AR Tryz.prog 126 8 124 := ⟨by kernel_rfl⟩
instance : ZV Tryz.prog 126 (List.replicate 8 (.int .u32 0)) := ⟨by kernel_rfl⟩
-- 127: [64]uint32
instance : SZ Tryz.prog 127 64 := ⟨by kernel_rfl⟩
instance : AG Tryz.prog 127 true := ⟨by kernel_rfl⟩
instance : AR Tryz.prog 127 64 124 := ⟨by kernel_rfl⟩
instance : ZV Tryz.prog 127 (List.replicate 64 (.int .u32 0)) := ⟨by kernel_rfl⟩
-- 128: func() [64]uint32
-- 129: func([]uint8, *[64]uint32)
-- 130: *[64]uint32
-- 131: [128]uint8
instance : AR Tryz.prog 131 128 5 := ⟨by kernel_rfl⟩
instance : ZV Tryz.prog 131 (List.replicate 128 (.int .u8 0)) := ⟨by kernel_rfl⟩
-- 132: func(...int) []uint8
-- 133: func([8]uint32, []uint8, *[64]uint32) [8]uint32
-- 134: func([]int)
-- 135: func(int) bool
instance : AG Tryz.prog 135 false := ⟨by kernel_rfl⟩
-- 136: func(string, uint8) string
-- 137: [256]bool
-- 138: strings.asciiSet
instance : SZ Tryz.prog 138 256 := ⟨by kernel_rfl⟩
instance : AG Tryz.prog 138 true := ⟨by kernel_rfl⟩
instance : AR Tryz.prog 138 256 4 := ⟨by kernel_rfl⟩
instance : ZV Tryz.prog 138 (List.replicate 256 (.bool false)) := ⟨by kernel_rfl⟩
-- 140: func(string) (strings.asciiSet, bool)
-- 141: func(string, *strings.asciiSet) string
-- 142: *strings.asciiSet
-- 143: func(func(int) bool) iter.Seq2[int,*seneschal/coord.producer
-- 144: *digest.state
-- 145: func(uint32) uint32
-- 146: func(uint32, uint32, uint32) uint32
-- 147: func(int) []uint8
-- 148: func(uint32, uint) uint32
-- 149: func([]int, iter.Seq[int]) []int
-- 150: func([]int, int, int, int)
-- 151: func(uint) int
-- 152: func(uint8) bool
-- 154: func(string) (int32, int)
-- 155: func(string, int32) bool
-- 156: func(int, *coord.producer) bool
-- 157: func(map[int]*coord.producer) map[int]*coord.producer
-- 158: func(map[int]*coord.producer) iter.Seq[int]
-- 159: func([]int, int, int)
-- 160: slices.sortedHint
-- 162: func([]int, int, int) (int, slices.sortedHint)
-- 163: func([]int, int, int) bool
-- 164: func(int, int) bool
-- 165: func([]int, int, int, int) int
-- 166: func([]int, int, int, int) (int, bool)
-- 167: func(uint32) int
-- 168: func(uint64) int
-- 169: func(string, int32) int
-- 170: func(interface {}) interface {}
-- 171: slices.xorshift
-- 172: func(int) uint
-- 173: func() uint64
-- 174: func([]int, int, *int) int
-- 175: *int
-- 176: func([]int, int, int, int, *int) int
-- 177: [256]uint8
-- 178: struct { lo uint8; hi uint8 }
-- 179: utf8.acceptRange
-- 180: [16]utf8.acceptRange
-- 181: func(string, uint8) int
-- 182: func(int32) bool
-- 183: func(int) int
-- 184: func(string, string) int
-- 185: *slices.xorshift
-- 187: func([]int, int, int, *int) (int, int)
-- 188: func() string
-- 191: [0]*runtime.PanicNilError
-- 196: func(unsafe.Pointer, unsafe.Pointer) bool
-- 197: *uint8
end Go.Proofs.YtccgdnocldmjeaaGreatDoor
namespace Go.Proofs.YtccgdnocldmjeaaGreatDoor
open Go
set_option maxHeartbeats 4000000
set_option linter.unusedSimpArgs false
set_option linter.unusedVariables false
set_option maxRecDepth 20000
theorem cmpIsNaN_ok (x : Int) : Trip Tryz.prog 121 [vi x] [] (fun r l => r = vb false ∧ l = []) := by
  refine Trip.of_body Tryz.func121 rfl Tryz.ntmps121 Tryz.results121 rfl ?_
  refine Wsr (Ls (Rdo.assign rfl) (Lnt (Wsr (Ls (Rdo.move rfl) (Ls (Rdo.move rfl) (Ls (Rdo.nei rfl rfl) (Ls (Rdo.assign rfl) (Lnt (Wp.ret ?_)))))))))
  refine Rt (ResV.tmp rfl ResV.nil) ⟨(by first | rfl | (simp [packed] <;> done) | (simp_all [packed] <;> done)), rfl⟩
theorem cmpLess_ok (x y : Int) : Trip Tryz.prog 106 [vi x, vi y] [] (fun r l => r = vb (decide (x < y)) ∧ l = []) := by
  refine Trip.of_body Tryz.func106 rfl Tryz.ntmps106 Tryz.results106 rfl ?_
  refine Wsr (Ls (Rdo.assign rfl) (Lnt (Wsr (Ls (Rdo.move rfl) ?_))))
  refine WpL.step (Sc (cmpIsNaN_ok _) rfl ?_)
  rintro _ _ ⟨rfl, rfl⟩
  refine Ll ?_
  refine Ls (Rdo.move rfl) (Lp rfl rfl (Lp rfl rfl (Lp rfl rfl (Ls (Rdo.pick_f rfl rfl) (Ls (Rdo.move rfl) (Lw rfl rfl (Rdo.move rfl) (Lw rfl rfl (Rdo.move rfl) (Lw rfl rfl (Rdo.lti rfl rfl) (Ls (Rdo.pick_f rfl rfl) (Ls (Rdo.assign rfl) (Lnt (Wp.ret ?_))))))))))))
  refine Rt (ResV.tmp rfl ResV.nil) ⟨rfl, rfl⟩
theorem bitsLen64_ok (x : Nat) (hx : x < 256) : Trip Tryz.prog 110 [.int .u64 x] [] (fun r l => ∃ k, r = vi k ∧ l = []) := by
  refine Trip.of_body Tryz.func110 rfl Tryz.ntmps110 Tryz.results110 rfl ?_
  refine Wsr (Ls (Rdo.assign rfl) (Lnt (Wp.seq (Wsr (Ls (Rdo.move rfl) (Ls (Rdo.gei rfl rfl) (Lnt (cL rfl (Wp.skip (Thn.n (Wp.seq (Wsr (Ls (Rdo.move rfl) ?_)))))))))))))
  refine Ls (Rdo.gei rfl rfl) (Lnt (cL rfl (Wp.skip (Thn.n (Wp.seq (Wsr (Ls (Rdo.move rfl) (Ls (Rdo.gei rfl rfl) (Lnt (cL rfl (Wp.skip (Thn.n (Wsr ?_)))))))))))))
  refine Ls (Rdo.move rfl) (Ls (Rdo.move rfl) (Ls (Rdo.convInt rfl) ?_))
  have hw : (IntKind.u8.wrap (x : Int)) = (x : Int) := wrap_in (by simp [IntKind.min, IntKind.signed]) (by simp [IntKind.max, IntKind.signed, IntKind.bits]; omega)
  rw [hw]
  refine Ls (Rdo.indexStr rfl rfl (getElem?_pos _ _ ?_)) ?_
  · exact hx
  refine Ls (Rdo.convInt rfl) (Ls (Rdo.add rfl rfl) (Ls (Rdo.assign rfl) (Lnt (Wp.ret ?_))))
  refine Rt (ResV.tmp rfl ResV.nil) ⟨_, ⟨rfl, rfl⟩⟩
theorem bitsLen_ok (x : Nat) (hx : x < 256) : Trip Tryz.prog 91 [.int .u64 x] [] (fun r l => ∃ k, r = vi k ∧ l = []) := by
  refine Trip.of_body Tryz.func91 rfl Tryz.ntmps91 Tryz.results91 rfl ?_
  refine Wsr (Ls (Rdo.assign rfl) (Lnt (Wp.seq ?_)))
  refine Wp.condF rfl ?_
  refine Wp.skip (Thn.n (Wsr (Ls (Rdo.move rfl) ?_)))
  refine WpL.step (Sc (bitsLen64_ok _ (by first | rfl | assumption | omega | (simp <;> done) | (simp <;> omega) | (simp [IntKind.bits]; omega) | simp_all)) rfl ?_)
  rintro _ _ ⟨v13_0, ⟨rfl, rfl⟩⟩
  refine Ll ?_
  refine Ls (Rdo.assign rfl) (Lnt (Wp.ret ?_))
  refine Rt (ResV.tmp rfl ResV.nil) ⟨_, ⟨rfl, rfl⟩⟩
theorem insertion_ok (xs : List Int) (v : Value) (hn : xs.length ≤ 1099511627776) :
    Trip Tryz.prog 100 [v, vi 0, vi xs.length] [rowA 3 1 v xs.length (xs.map vi)]
      (fun r l => r = .tuple #[] ∧ ∃ ys : List Int, ys.Perm xs ∧ ys.Pairwise (· ≤ ·) ∧ l = [rowA 3 1 v xs.length (ys.map vi)]) := by
  generalize hN : xs.length = N
  rw [hN] at hn
  refine Trip.of_body Tryz.func100 rfl Tryz.ntmps100 Tryz.results100 rfl ?_
  refine Wsr (Ls (Rdo.move rfl) ?_)
  refine Ls (Rdo.add64 rfl rfl (by first | omega | (dsimp only; omega))) ?_
  refine Ls (Rdo.assign rfl) (Lnt (Wp.block ?_))
  refine Wp.loopE (fun k e h => ∃ (i : Nat) (cur : List Int), 1 ≤ i ∧ (i + k = N ∨ (k = 0 ∧ N ≤ i)) ∧ cur.Perm xs ∧ (cur.take i).Pairwise (· ≤ ·) ∧ e = [(0, v), (1, vi 0), (2, vi N), (6, vi i)] ∧ h = [rowA 3 1 v N (cur.map vi)]) (N - 1)
    (e0 := [(0, v), (1, vi 0), (2, vi N), (6, vi (1 : Nat))]) (l0 := [rowA 3 1 v N (xs.map vi)]) (by repeat (first | exact trivial | refine ⟨rfl, ?_⟩)) (by repeat (first | exact trivial | refine ⟨rfl, ?_⟩)) Gk ⟨1, xs, by omega, by omega, List.Perm.refl _, by cases xs <;> simp, rfl, rfl⟩ ?_
  rintro k e h ⟨i, cur, hi1, hik, hperm, hsort, rfl, rfl⟩
  have hcl : cur.length = N := by rw [hperm.length_eq, hN]
  by_cases hi : i < N
  · refine Wp.get Pk.here (fun r => rowA_at i hi) ?_
    rintro ⟨b, o, cap, rfl⟩
    refine Wp.seq (Wsr (Ls (Rdo.move rfl) (Ls (Rdo.move rfl) (Ls (Rdo.lti rfl rfl) (Lnt (cK rfl (Wp.skip (Thn.n (Wp.seq (Wp.block (Wsr (Ls (Rdo.move rfl) (Ls (Rdo.assign rfl) ?_)))))))))))))
    refine Lnt (Wp.block ?_)
    obtain ⟨x, hx⟩ : ∃ x, cur[i]? = some x := ⟨cur[i]'(by omega), List.getElem?_eq_getElem (by omega)⟩
    refine Wp.loopE (fun j e h => ∃ (A B : List Int), A.length = j ∧ j + B.length = i ∧ cur.take i = A ++ B ∧ (∀ y ∈ B, x < y) ∧
        e = [(0, .slice (some ⟨b, o, none⟩) N cap), (1, vi 0), (2, vi N), (6, vi i), (7, vi j)] ∧ h = [rowA 3 1 (.slice (some ⟨b, o, none⟩) N cap) N ((A ++ x :: (B ++ cur.drop (i + 1))).map vi)]) i
      (e0 := [(0, .slice (some ⟨b, o, none⟩) N cap), (1, vi 0), (2, vi N), (6, vi i), (7, vi i)]) (l0 := [rowA 3 1 (.slice (some ⟨b, o, none⟩) N cap) N (cur.map vi)]) (by repeat (first | exact trivial | refine ⟨rfl, ?_⟩)) (by repeat (first | exact trivial | refine ⟨rfl, ?_⟩)) Gk
      ⟨cur.take i, [], by simp; omega, by simp, by simp, by simp, rfl, by
        have e1 : cur.take i ++ x :: ([] ++ cur.drop (i + 1)) = cur := by
          obtain ⟨hi', rfl⟩ := List.getElem?_eq_some_iff.1 hx
          rw [List.nil_append, ← List.drop_eq_getElem_cons hi', List.take_append_drop]
        rw [e1]⟩ ?_
    rintro j e h ⟨A, B, hA, hj, htake, hlt, rfl, rfl⟩
    have hperm2 : (A ++ x :: (B ++ cur.drop (i + 1))).Perm xs := by
      refine List.Perm.trans ?_ hperm
      obtain ⟨hi', rfl⟩ := List.getElem?_eq_some_iff.1 hx
      have e1 : cur = cur.take i ++ cur[i] :: cur.drop (i + 1) := by rw [← List.drop_eq_getElem_cons hi', List.take_append_drop]
      conv => rhs; rw [e1, htake]
      simp only [List.append_assoc]
      exact List.Perm.append_left A List.perm_middle.symm
    have hdone : (∀ y ∈ A, y ≤ x) → ((A ++ x :: (B ++ cur.drop (i + 1))).take (i + 1)).Pairwise (· ≤ ·) := by
      intro hAx
      have e1 : (A ++ x :: (B ++ cur.drop (i + 1))).take (i + 1) = A ++ x :: B := by
        rw [show A ++ x :: (B ++ cur.drop (i + 1)) = (A ++ x :: B) ++ cur.drop (i + 1) by simp]
        exact List.take_left' (by simp; omega)
      rw [e1]
      rw [htake, List.pairwise_append] at hsort
      obtain ⟨h1, h2, h3⟩ := hsort
      rw [List.pairwise_append]
      refine ⟨h1, List.pairwise_cons.2 ⟨fun y hy => Int.le_of_lt (hlt y hy), h2⟩, fun a ha b hb => ?_⟩
      rcases List.mem_cons.1 hb with rfl | hb
      · exact hAx a ha
      · exact h3 a ha b hb
    have hlen2 : (A ++ x :: (B ++ cur.drop (i + 1))).length = N := by rw [hperm2.length_eq, hN]
    rcases List.eq_nil_or_concat A with rfl | ⟨A', y, rfl⟩
    · have hj0 : j = 0 := by simpa using hA.symm
      subst hj0
      refine Wp.seq (Wp.seq ?_)
      refine Wp.draw (by kernel_rfl) ?_
      refine Qt (i := 0) rfl (Rdo.move rfl) (Qt (i := 1) rfl (Rdo.move rfl) (Qt (i := 2) rfl (Rdo.gti rfl rfl) (Qt (i := 3) rfl (Rdo.move rfl) (Qp (i := 4) rfl rfl rfl (Qp (i := 5) rfl rfl rfl (Qp (i := 6) rfl rfl rfl (Qp (i := 7) rfl rfl rfl (Qp (i := 8) rfl rfl rfl (Qp (i := 9) rfl rfl rfl (Qp (i := 10) rfl rfl rfl (Qp (i := 11) rfl rfl rfl (Qp (i := 12) rfl rfl rfl (Qp (i := 13) rfl rfl rfl ?_)))))))))))))
      refine Qt (i := 14) rfl (Rdo.pick_f rfl rfl) ?_
      refine WpR.done (by kernel_rfl) ?_
      refine Thn.n ?_
      refine Wp.condF rfl ?_
      refine Wp.exit ?_
      refine Thn.x ?_
      refine Thn.x ?_
      refine Blk.here ?_
      refine Blk.n (Thn.n (Wp.region (Ls (Rdo.move rfl) ?_)))
      refine Ls (Rdo.succ rfl rfl (by omega)) ?_
      refine Ls (Rdo.assign rfl) (Lnt ?_)
      refine ⟨k - 1, _, _, by omega, ⟨i + 1, _, by omega, by omega, hperm2, hdone (by simp), rfl, rfl⟩, (by repeat (first | exact trivial | refine ⟨rfl, ?_⟩)), Gk⟩
    · obtain ⟨j', rfl⟩ : ∃ j', j = j' + 1 := ⟨A'.length, by simpa using hA.symm⟩
      have hA' : A'.length = j' := by simpa using hA
      have l1 : ((A'.concat y ++ x :: (B ++ cur.drop (i + 1))).map vi)[j' + 1]? = some (vi x) := by simp [hA', List.getElem?_append_right]
      have l2 : ((A'.concat y ++ x :: (B ++ cur.drop (i + 1))).map vi)[j']? = some (vi y) := by simp [hA', List.getElem?_append_right]
      have hll : ((A'.concat y ++ x :: (B ++ cur.drop (i + 1))).map vi).length = N := by rw [List.length_map, hlen2]
      by_cases hxy : x < y
      · refine Wp.seq (Wp.seq ?_)
        refine Wp.draw (by kernel_rfl) ?_
        refine Qt (i := 0) rfl (Rdo.move rfl) (Qt (i := 1) rfl (Rdo.move rfl) (Qt (i := 2) rfl (Rdo.gti rfl rfl) (Qt (i := 3) rfl (Rdo.move rfl) ?_)))
        refine WpR.tT 19 rfl (by first | rfl | assumption | (simp only [decide_eq_true_eq, decide_eq_false_iff_not, Bool.not_eq_true', Bool.not_eq_false', List.length_cons, List.length_nil]; first | assumption | omega) | (simp <;> done) | (simp <;> omega)) ?_
        refine Qw (i := 4) rfl rfl rfl (Rdo.move rfl) (Qw (i := 5) rfl rfl rfl (Rdo.move rfl) ?_)
        refine Qw (i := 6) rfl rfl rfl (Rdo.indexSlice rfl rfl (by omega)) ?_
        refine Qw (i := 8) rfl rfl rfl (Rdo.move rfl) (Qw (i := 9) rfl rfl rfl (Rdo.move rfl) ?_)
        refine Qw (i := 10) rfl rfl rfl (Rdo.pred rfl rfl (by omega)) ?_
        refine Qw (i := 11) rfl rfl rfl (Rdo.indexSlice rfl rfl (by omega)) ?_
        refine WpR.phaseL (m := 0) #[true, true, true, true, true, true, true, true, true, true, true, true, true, true, true] 4 _ rfl (by kernel_rfl) (Tk.cons Pk.here Tk.nil) ?_
        refine Aw (i := 7) rfl rfl rfl (Rdo.load rfl (Lds.row1 (by assumption))) ?_
        refine Aw (i := 12) rfl rfl rfl (Rdo.load rfl (Lds.row1 (by assumption))) ?_
        refine WpA.oneG (i := 13) rfl rfl rfl rfl (by kernel_rfl) (Sc (cmpLess_ok _ _) rfl ?_)
        rintro _ _ ⟨rfl, rfl⟩
        refine WpA.lst (by simp only [List.cons_append, List.nil_append]; exact rfl) ?_
        refine At (i := 14) rfl (Rdo.pick_t rfl rfl) ?_
        refine WpA.stop (by kernel_rfl) ?_
        refine Ql ?_
        refine WpR.done (by kernel_rfl) ?_
        refine Thn.n (cK rfl (Wp.skip (Thn.n (Wp.seq (Wp.block ?_)))))
        refine Wp.draw (by kernel_rfl) ?_
        refine Qt (i := 0) rfl (Rdo.move rfl) (Qt (i := 1) rfl (Rdo.move rfl) (Qt (i := 2) rfl (Rdo.move rfl) (Qt (i := 3) rfl (Rdo.move rfl) ?_)))
        refine Qt (i := 4) rfl (Rdo.pred rfl rfl (by omega)) ?_
        refine Qt (i := 5) rfl (Rdo.move rfl) (Qt (i := 6) rfl (Rdo.move rfl) ?_)
        refine Qt (i := 7) rfl (Rdo.pred rfl rfl (by omega)) ?_
        refine Qt (i := 8) rfl (Rdo.indexSlice rfl rfl (by omega)) ?_
        refine Qt (i := 10) rfl (Rdo.move rfl) (Qt (i := 11) rfl (Rdo.move rfl) ?_)
        refine Qt (i := 12) rfl (Rdo.indexSlice rfl rfl (by omega)) ?_
        refine WpR.phaseL (m := 4) #[true, true, true, true, true, true, true, true, true, true, true, true, true, true, false, false, false, false] 2 _ rfl (by kernel_rfl) Tk.rfl_ ?_
        refine At (i := 9) rfl (Rdo.load rfl (Lds.row1 (by assumption))) ?_
        refine At (i := 13) rfl (Rdo.load rfl (Lds.row1 (by assumption))) ?_
        refine WpA.stop (by kernel_rfl) ?_
        refine WpR.lst (by simp only [List.cons_append, List.nil_append, List.append_nil]; exact rfl) ?_
        refine Qt (i := 14) rfl (Rdo.indexSlice rfl rfl (by omega)) ?_
        refine Qo (i := 15) rfl (St rfl rfl (VC.i _ _) ?_)
        refine Qt (i := 16) rfl (Rdo.indexSlice rfl rfl (by omega)) ?_
        refine Qo (i := 17) rfl (St rfl rfl (VC.i _ _) ?_)
        refine WpR.done (by kernel_rfl) ?_
        refine Blk.n (Thn.n (Wp.region (Ls (Rdo.move rfl) ?_)))
        refine Ls (Rdo.pred rfl rfl (by omega)) ?_
        refine Ls (Rdo.assign rfl) (Lnt ?_)
        refine ⟨j', _, _, by omega, ⟨A', y :: B, hA', by simp; omega, by rw [htake]; simp, ?_, rfl, rfl⟩, (by repeat (first | exact trivial | refine ⟨rfl, ?_⟩)), ?_⟩
        · intro z hz
          rcases List.mem_cons.1 hz with rfl | hz
          · exact hxy
          · exact hlt z hz
        · have e2 : (((A'.concat y ++ x :: (B ++ cur.drop (i + 1))).map vi).set (j' + 1) (vi y)).set j' (vi x) = (A' ++ x :: (y :: B ++ cur.drop (i + 1))).map vi := by
            subst hA'
            simp [List.set_append]
          rw [e2]
          exact Gk
      · refine Wp.seq (Wp.seq ?_)
        refine Wp.draw (by kernel_rfl) ?_
        refine Qt (i := 0) rfl (Rdo.move rfl) (Qt (i := 1) rfl (Rdo.move rfl) (Qt (i := 2) rfl (Rdo.gti rfl rfl) (Qt (i := 3) rfl (Rdo.move rfl) ?_)))
        refine WpR.tT 19 rfl (by first | rfl | assumption | (simp only [decide_eq_true_eq, decide_eq_false_iff_not, Bool.not_eq_true', Bool.not_eq_false', List.length_cons, List.length_nil]; first | assumption | omega) | (simp <;> done) | (simp <;> omega)) ?_
        refine Qw (i := 4) rfl rfl rfl (Rdo.move rfl) (Qw (i := 5) rfl rfl rfl (Rdo.move rfl) ?_)
        refine Qw (i := 6) rfl rfl rfl (Rdo.indexSlice rfl rfl (by omega)) ?_
        refine Qw (i := 8) rfl rfl rfl (Rdo.move rfl) (Qw (i := 9) rfl rfl rfl (Rdo.move rfl) ?_)
        refine Qw (i := 10) rfl rfl rfl (Rdo.pred rfl rfl (by omega)) ?_
        refine Qw (i := 11) rfl rfl rfl (Rdo.indexSlice rfl rfl (by omega)) ?_
        refine WpR.phaseL (m := 0) #[true, true, true, true, true, true, true, true, true, true, true, true, true, true, true] 4 _ rfl (by kernel_rfl) (Tk.cons Pk.here Tk.nil) ?_
        refine Aw (i := 7) rfl rfl rfl (Rdo.load rfl (Lds.row1 (by assumption))) ?_
        refine Aw (i := 12) rfl rfl rfl (Rdo.load rfl (Lds.row1 (by assumption))) ?_
        refine WpA.oneG (i := 13) rfl rfl rfl rfl (by kernel_rfl) (Sc (cmpLess_ok _ _) rfl ?_)
        rintro _ _ ⟨rfl, rfl⟩
        refine WpA.lst (by simp only [List.cons_append, List.nil_append]; exact rfl) ?_
        refine At (i := 14) rfl (Rdo.pick_t rfl rfl) ?_
        refine WpA.stop (by kernel_rfl) ?_
        refine Ql ?_
        refine WpR.done (by kernel_rfl) ?_
        refine Thn.n (cL rfl ?_)
        refine Wp.exit ?_
        refine Thn.x ?_
        refine Thn.x ?_
        refine Blk.here ?_
        refine Blk.n (Thn.n (Wp.region (Ls (Rdo.move rfl) ?_)))
        refine Ls (Rdo.succ rfl rfl (by omega)) ?_
        refine Ls (Rdo.assign rfl) (Lnt ?_)
        refine ⟨k - 1, _, _, by omega, ⟨i + 1, _, by omega, by omega, hperm2, hdone ?_, rfl, rfl⟩, (by repeat (first | exact trivial | refine ⟨rfl, ?_⟩)), Gk⟩
        intro z hz
        have hz' : z ∈ A' ∨ z = y := by simpa using hz
        rw [htake, List.pairwise_append] at hsort
        obtain ⟨h1, h2, h3⟩ := hsort
        rw [List.concat_eq_append, List.pairwise_append] at h1
        rcases hz' with hz' | rfl
        · have := h1.2.2 z hz' y (by simp)
          omega
        · omega
  · refine Wp.seq (Wsr (Ls (Rdo.move rfl) (Ls (Rdo.move rfl) (Ls (Rdo.lti rfl rfl) (Lnt (cL rfl ?_))))))
    refine Wp.exit ?_
    refine Thn.x ?_
    refine Thn.x ?_
    refine Blk.here ?_
    refine Ret.end_ ResV.nil Gk ⟨rfl, cur, hperm, ?_, rfl⟩
    rwa [List.take_of_length_le (by omega)] at hsort
end Go.Proofs.YtccgdnocldmjeaaGreatDoor
namespace Go.Proofs.YtccgdnocldmjeaaGreatDoor
open Go
set_option maxHeartbeats 4000000
set_option linter.unusedSimpArgs false
set_option linter.unusedVariables false
set_option maxRecDepth 20000
theorem pdq_ok (xs : List Int) (v : Value) (lim : Int) (hn : xs.length ≤ 12) :
    Trip Tryz.prog 90 [v, vi 0, vi xs.length, vi lim] [rowA 3 1 v xs.length (xs.map vi)]
      (fun r l => r = .tuple #[] ∧ ∃ ys : List Int, ys.Perm xs ∧ ys.Pairwise (· ≤ ·) ∧ l = [rowA 3 1 v xs.length (ys.map vi)]) := by
  refine Trip.of_body Tryz.func90 rfl Tryz.ntmps90 Tryz.results90 rfl ?_
  refine Wsr (Ls (Rdo.assign rfl) (Lnt (Wsr (Ls (Rdo.assign rfl) (Lnt (Wp.block ?_))))))
  refine Wp.loopOnce ?_
  refine Wp.block (Wsr (Ls (Rdo.move rfl) (Ls (Rdo.move rfl) ?_)))
  refine Ls (Rdo.sub64 rfl rfl (by omega)) ?_
  refine Ls (Rdo.assign rfl) (Lnt (Wp.seq (Wsr (Ls (Rdo.move rfl) (Ls (Rdo.lei rfl rfl) (Lnt (cK rfl (Wsr (Ls (Rdo.move rfl) (Ls (Rdo.move rfl) (Ls (Rdo.move rfl) ?_)))))))))))
  refine WpL.step (Sc (insertion_ok _ _ (by first | rfl | assumption | omega | (simp <;> done) | (simp <;> omega) | (simp [IntKind.bits]; omega) | simp_all)) rfl ?_)
  rintro _ _ ⟨rfl, ⟨v23_0, ⟨hv23_1, ⟨hv23_2, rfl⟩⟩⟩⟩
  refine Ll ?_
  refine Lnt (Wp.ret ?_)
  refine Thn.r ?_
  refine Blk.r ?_
  refine Thn.r ?_
  refine Blk.r ?_
  refine Rt ResV.nil ⟨rfl, ⟨_, ⟨(by first | assumption | omega | (simp <;> done) | (simp <;> omega)), ⟨(by first | assumption | omega | (simp <;> done) | (simp <;> omega)), rfl⟩⟩⟩⟩
theorem sort_ok (xs : List Int) (v : Value) (hn : xs.length ≤ 12) :
    Trip Tryz.prog 69 [v] [rowA 3 1 v xs.length (xs.map vi)]
      (fun r l => r = .tuple #[] ∧ ∃ ys : List Int, ys.Perm xs ∧ ys.Pairwise (· ≤ ·) ∧ l = [rowA 3 1 v xs.length (ys.map vi)]) := by
  refine Trip.get Pk.here (fun r => rowA_shape) ?_
  rintro ⟨a0, c0, rfl⟩
  refine Trip.of_body Tryz.func69 rfl Tryz.ntmps69 Tryz.results69 rfl ?_
  refine Wsr (Ls (Rdo.move rfl) (Ls (Rdo.lenSlice rfl) (Ls (Rdo.assign rfl) (Lnt (Wp.region (Ls (Rdo.move rfl) (Ls (Rdo.move rfl) (Ls (Rdo.move rfl) (Ls (Rdo.convInt rfl) ?_)))))))))
  refine WpL.step (Sc (bitsLen_ok _ (by first | rfl | assumption | omega | (simp <;> done) | (simp <;> omega) | (simp [IntKind.bits]; omega) | simp_all)) rfl ?_)
  rintro _ _ ⟨v13_0, ⟨rfl, rfl⟩⟩
  refine Ll ?_
  refine WpL.step (Sc (pdq_ok _ _ _ (by first | rfl | assumption | omega | (simp <;> done) | (simp <;> omega) | (simp [IntKind.bits]; omega) | simp_all)) rfl ?_)
  rintro _ _ ⟨rfl, ⟨v16_0, ⟨hv16_1, ⟨hv16_2, rfl⟩⟩⟩⟩
  refine Ll ?_
  refine WpL.nil ?_
  refine Ret.end_ ResV.nil Gk ⟨rfl, ⟨_, ⟨(by first | assumption | omega | (simp <;> done) | (simp <;> omega)), ⟨(by first | assumption | omega | (simp <;> done) | (simp <;> omega)), rfl⟩⟩⟩⟩
/-- Numbers that rise, out of numbers. -/
theorem sorted_unique {xs ys : List Int} (h : xs.Perm ys) (hx : xs.Pairwise (· ≤ ·)) (hy : ys.Pairwise (· ≤ ·)) : xs = ys :=
  List.Perm.eq_of_pairwise (fun a b _ _ h1 h2 => Int.le_antisymm h1 h2) hx hy h
theorem appendSeq_ok (gf : FuncId) (cap : List Value) (own : List HP) (S : List Int → Prop) (hS : ∀ xs, S xs → xs.length ≤ 12) (hf : callable Tryz.prog gf = true) (hit : IterOK Tryz.prog gf cap (fun k : Int => [vi k]) [] own S) :
    Trip Tryz.prog 89 [vnil, .func (.func gf) #[] cap.toArray] own
      (fun r l => ∃ xs, S xs ∧ l = rowA 3 1 r xs.length (xs.map vi) :: own) := by
  refine Trip.of_body Tryz.func89 rfl Tryz.ntmps89 Tryz.results89 rfl ?_
  refine Wsr ?_
  (refine WpL.step (Stp.boxV rfl (VC.sl _ _ _) rfl ?_); intro nb2)
  refine Ls (Rdo.assign rfl) (Lnt (Wp.seq (Wsr (Ls (Rdo.move rfl) (Lnt (Wp.block ?_))))))
  refine Wp.rangeFunc (ps := [7]) rfl hf hit (fun _ => rfl) rfl (fun pre l => ∃ v, l = [cel nb2 69 [v], rowA 3 1 v pre.length (pre.map vi)]) (fun _ _ _ => False)
    (l0 := [cel nb2 69 [vnil], rowA 3 1 vnil 0 []]) (Gh.trans (Gh.nil 3 1) (Gh.perm (List.Perm.swap _ _ _))) ⟨vnil, rfl⟩ (Bor.nil _) ?_ ?_ ?_
  · rintro lp rec pre x rest _ hs ⟨v, rfl⟩ st pe
    have hlen := hS _ hs
    simp at hlen
    refine Wp.region (Ls (Rdo.assign rfl) (WpL.nil ?_))
    refine ⟨rfl, fun st pe => ?_⟩
    refine Wp.block (Wp.region (Ls (Rdo.load rfl (Lds.one rfl)) (Ls (Rdo.move rfl) ?_)))
    (refine WpL.step (Stp.sliceV rfl rfl (VCs.cons (VC.i _ _) (by first | rfl | assumption | (simp <;> done)) VCs.nil) (by simp only [List.cons_append, List.nil_append, List.append_nil]; exact rfl) rfl rfl ?_); intro nb4)
    (refine WpL.step (Stp.appendP rfl rfl (Pk.next (Pk.next Pk.here)) (Src.cel (by first | rfl | (simp <;> done) | (simp <;> omega))) (by first | rfl | (simp <;> done) | (simp <;> omega)) (by first | assumption | exact oneCells1 rfl | exact oneCells1 (by assumption) | exact oneCells_bytesC _ | exact oneCells_votesC _ | (simp [oneCells, Value.oneCell'] <;> done)) (by first | omega | (simp <;> omega)) (by first | omega | (simp <;> omega)) rfl (by first | rfl | (simp <;> done)) ?_); intro na5 nc5)
    refine WpL.step (Stp.storeV rfl rfl (VC.sl _ _ _) rfl (Sts.next (Sts.next (Sp (oneCells1 rfl)))) ?_)
    refine WpL.nil (Blk.n ?_)
    exact ⟨_, Gh.tk (Tk.cons (Pk.next (Pk.next Pk.here)) (Tk.cons Pk.here Tk.nil)), _, by rw [List.length_append, List.map_append]; rfl⟩
  · rintro xs _ hs ⟨v, rfl⟩
    refine Blk.n (Thn.n (Wsr (Ls (Rdo.load rfl (Lds.one rfl)) (Ls (Rdo.assign rfl) (Lnt (Wp.ret ?_))))))
    exact Ret.now (ResV.tmp rfl ResV.nil) (Gh.drop Pk.here) ⟨xs, hs, rfl⟩
  · intro j pre l' h
    exact h.elim
theorem collect_ok (gf : FuncId) (cap : List Value) (own : List HP) (S : List Int → Prop) (hS : ∀ xs, S xs → xs.length ≤ 12) (hf : callable Tryz.prog gf = true) (hit : IterOK Tryz.prog gf cap (fun k : Int => [vi k]) [] own S) :
    Trip Tryz.prog 68 [.func (.func gf) #[] cap.toArray] own
      (fun r l => ∃ xs, S xs ∧ l = rowA 3 1 r xs.length (xs.map vi) :: own) := by
  refine Trip.of_body Tryz.func68 rfl Tryz.ntmps68 Tryz.results68 rfl ?_
  refine Wsr (Ls (Rdo.assign rfl) (Lnt (Wsr (Ls (Rdo.move rfl) ?_))))
  refine WpL.step (Stp.call (appendSeq_ok gf cap own S hS hf hit) (by kernel_rfl) rfl Tk.rfl_ rfl ?_)
  rintro r _ ⟨xs, hs, rfl⟩
  refine WpL.lst (List.append_nil _) ?_
  refine Ls (Rdo.assign rfl) (Lnt (Wp.ret ?_))
  exact Ret.now (ResV.tmp rfl ResV.nil) Gh.rfl_ ⟨xs, hs, rfl⟩
/-- The numbers of an iterator, sorted: whatever the order in which they come. -/
theorem sorted_ok (gf : FuncId) (cap : List Value) (own : List HP) (ks : List Int) (hks : ks.length ≤ 12) (hsort : ks.Pairwise (· ≤ ·)) (hf : callable Tryz.prog gf = true) (hit : IterOK Tryz.prog gf cap (fun k : Int => [vi k]) [] own (fun xs => xs.Perm ks)) :
    Trip Tryz.prog 46 [.func (.func gf) #[] cap.toArray] own
      (fun r l => l = rowA 3 1 r ks.length (ks.map vi) :: own) := by
  refine Trip.of_body Tryz.func46 rfl Tryz.ntmps46 Tryz.results46 rfl ?_
  refine Wsr (Ls (Rdo.assign rfl) (Lnt (Wsr (Ls (Rdo.move rfl) ?_))))
  refine WpL.step (Stp.call (collect_ok gf cap own _ (fun xs h => by rw [h.length_eq]; exact hks) hf hit) (by kernel_rfl) rfl Tk.rfl_ rfl ?_)
  rintro r _ ⟨xs, hs, rfl⟩
  refine WpL.lst (List.append_nil _) ?_
  refine Ls (Rdo.assign rfl) (Lnt (Wsr (Ls (Rdo.move rfl) ?_)))
  refine WpL.step (Stp.call (sort_ok xs r (by rw [hs.length_eq]; exact hks)) (by kernel_rfl) rfl (Tk.cons Pk.here Tk.nil) rfl ?_)
  rintro _ _ ⟨rfl, ys, h1, h2, rfl⟩
  have e1 : ys = ks := sorted_unique (h1.trans hs) h2 hsort
  subst e1
  rw [h1.length_eq.symm]
  refine Ll ?_
  refine Lnt (Wsr (Ls (Rdo.move rfl) (Ls (Rdo.assign rfl) (Lnt (Wp.ret ?_)))))
  exact Ret.now (ResV.tmp rfl ResV.nil) Gh.rfl_ rfl
theorem complete_ {l m : List Int} (hl : l.Nodup) (hm : m.Nodup) (hs : ∀ y ∈ l, y ∈ m) : ∃ rest, (l ++ rest).Perm m := by
  refine ⟨m.filter (fun y => decide (y ∉ l)), (List.perm_ext_iff_of_nodup ?_ hm).2 fun a => ?_⟩
  · rw [List.nodup_append]
    refine ⟨hl, hm.filter _, fun a ha b hb e => ?_⟩
    have := (List.mem_filter.1 hb).2
    simp only [decide_eq_true_eq] at this
    exact this (e ▸ ha)
  · by_cases ha : a ∈ l
    · simp [ha, hs a ha]
    · simp [ha]
end Go.Proofs.YtccgdnocldmjeaaGreatDoor
namespace Go.Proofs.YtccgdnocldmjeaaGreatDoor
open Go
set_option maxHeartbeats 4000000
set_option linter.unusedSimpArgs false
set_option linter.unusedVariables false
set_option maxRecDepth 20000
namespace Tabprod
abbrev tabA (b mb : Nat) (es : List (Int × Value)) : List HP := [cel b 74 [.map (some mb)], mapA i64 mb es]
theorem new_ok : Trip Tryz.prog 11 [] [] (fun r l => ∃ b mb, r = vp b 0 ∧ l = tabA b mb []) := by
  refine Trip.of_body Tryz.func11 rfl Tryz.ntmps11 Tryz.results11 rfl ?_
  refine Wsr (Ls (Rdo.assign rfl) (Lnt (Wsr ?_)))
  (refine WpL.step (Stp.makeMap0 i64 rfl ?_); intro nb7)
  refine Ls (Rdo.bld rfl (BldL.cons rfl (VC.m _) (by first | rfl | assumption | (simp <;> done)) (by repeat (first | exact LPut.nil _ | apply LPut.here | apply LPut.next)) (BldL.nil _))) ?_
  (refine WpL.step (Stp.boxV rfl (VC.ag _) rfl ?_); intro nb9)
  refine Ls (Rdo.assign rfl) (Lnt (Wp.ret ?_))
  refine Rt (ResV.tmp rfl ResV.nil) ⟨_, ⟨_, ⟨rfl, rfl⟩⟩⟩
theorem set_ok (b mb : Nat) (es : List (Int × Value)) (k : Int) (v : Value) : Trip Tryz.prog 55 [vp b 0, vi k, v] (tabA b mb es) (fun r l => r = .tuple #[] ∧ l = tabA b mb (aset es k v)) := by
  refine Trip.of_body Tryz.func55 rfl Tryz.ntmps55 Tryz.results55 rfl ?_
  refine Wsr (Ls (Rdo.move rfl) (Ls (Rdo.nenil rfl rfl) (Lnt ?_)))
  refine Wp.condT rfl ?_
  refine Wp.region (Ls (Rdo.move rfl) (Ls (Rdo.nilCheck rfl) (Ls (Rdo.fieldAddr0 rfl) (Ls (Rdo.load rfl (Lds.one rfl)) (Ls (Rdo.move rfl) (Ls (Rdo.move rfl) ?_))))))
  refine WpL.step (Stp.mapUpdate rfl rfl rfl (by repeat (first | exact Pk.here | apply Pk.next)) ?_)
  refine WpL.nil ?_
  refine Ret.end_ ResV.nil Gk ⟨rfl, rfl⟩
theorem get_ok (b mb : Nat) (es : List (Int × Value)) (k : Int) : Trip Tryz.prog 31 [vp b 0, vi k] (tabA b mb es)
    (fun r l => r = .tuple #[mapVal es k (.pointer none), vb (alook es k).isSome] ∧ l = tabA b mb es) := by
  refine Trip.of_body Tryz.func31 rfl Tryz.ntmps31 Tryz.results31 rfl ?_
  refine Wsr (Ls (Rdo.assign rfl) (Ls (Rdo.assign rfl) (Lnt (Wp.seq (Wsr (Ls (Rdo.move rfl) (Ls (Rdo.eqnil rfl rfl) (Lnt ?_))))))))
  refine Wp.condF rfl ?_
  refine Wp.skip (Thn.n (Wsr (Ls (Rdo.move rfl) (Ls (Rdo.nilCheck rfl) (Ls (Rdo.fieldAddr0 rfl) (Ls (Rdo.load rfl (Lds.one rfl)) (Ls (Rdo.move rfl) (Ls (Rdo.lookup2 rfl rfl (Mps.next Mps.here)) (Ls (Rdo.move rfl) (Ls (Rdo.extract rfl rfl) (Ls (Rdo.extract rfl rfl) (Ls (Rdo.assign rfl) (Ls (Rdo.assign rfl) ?_)))))))))))))
  refine Lnt (Wsr (Ls (Rdo.move rfl) (Ls (Rdo.move rfl) (Ls (Rdo.assign rfl) (Ls (Rdo.assign rfl) (Lnt (Wp.ret ?_)))))))
  refine Rt (ResV.tmp rfl (ResV.tmp rfl ResV.nil)) ⟨rfl, rfl⟩
theorem cloneF : ExtF Tryz.prog 114 Extern.MapsClone.clone := ExtF.mk Tryz.func114 (by kernel_rfl) (by kernel_rfl) (by kernel_rfl) (by kernel_rfl)
theorem clone_ok (mb : Nat) (es : List (Int × Value)) : Trip Tryz.prog 97 [.map (some mb)] [mapA i64 mb es] (fun r l => ∃ m', r = .map (some m') ∧ l = [mapA i64 mb es, mapA i64 m' es]) := by
  refine Trip.of_body Tryz.func97 rfl Tryz.ntmps97 Tryz.results97 rfl ?_
  refine Wsr (Ls (Rdo.assign rfl) (Lnt (Wp.seq (Wsr (Ls (Rdo.move rfl) (Ls (Rdo.eqmapnil rfl rfl) (Lnt ?_)))))))
  refine Wp.condF rfl ?_
  refine Wp.skip (Thn.n (Wsr (Ls (Rdo.move rfl) (Ls (Rdo.mkIface rfl) ?_))))
  refine WpL.step (Stp.mapsClone cloneF rfl Pk.here rfl ?_)
  intro m'
  refine Ls (Rdo.assertMap rfl) (Ls (Rdo.assign rfl) (Lnt (Wp.ret ?_)))
  refine Rt (ResV.tmp rfl ResV.nil) ⟨_, ⟨rfl, rfl⟩⟩
theorem keys_ok (mb : Nat) : Trip Tryz.prog 98 [.map (some mb)] [] (fun r l => ∃ c, r = .func (.func 115) #[] [vp c 0].toArray ∧ l = [cel c 72 [.map (some mb)]]) := by
  refine Trip.of_body Tryz.func98 rfl Tryz.ntmps98 Tryz.results98 rfl ?_
  refine Wsr ?_
  (refine WpL.step (Stp.boxV rfl (VC.m _) rfl ?_); intro nb2)
  refine Ls (Rdo.assign rfl) (Lnt (Wsr (Ls (Rdo.makeFunc rfl) (Ls (Rdo.assign rfl) (Lnt (Wp.ret ?_))))))
  refine Rt (ResV.tmp rfl ResV.nil) ⟨_, ⟨rfl, rfl⟩⟩
/-- The iterator over a map's keys: in whatever order. -/
theorem keysIter (c mb : Nat) (tc : TypeId) (es : List (Int × Value)) : IterOK Tryz.prog 115 [vp c 0] (fun k : Int => [vi k]) [] [cel c tc [.map (some mb)], mapA i64 mb es] (fun xs => xs.Perm (akeys es)) := by
  intro Y J Jx hY l0 h0 _
  refine Trip.gh (l' := [cel c tc [.map (some mb)], mapA i64 mb es] ++ l0) (Gh.perm List.perm_append_comm) ?_
  refine Trip.get (Pk.next Pk.here) mapA_nodup ?_
  intro hnd
  refine Trip.of_body Tryz.func115 rfl Tryz.ntmps115 Tryz.results115 rfl ?_
  refine Wsr (Ls (Rdo.load rfl (Lds.one rfl)) ?_)
  refine WpL.step (Stp.rangeMap rfl (Pk.next Pk.here) rfl ?_)
  intro it
  refine Lnt (Wp.block ?_)
  refine Wp.loopE (fun k e h => ∃ (done : List Int) (l1 : List HP), done.length + k = es.length ∧ done.Nodup ∧ (∀ x ∈ done, x ∈ akeys es) ∧ J done l1 ∧ e = [(0, Y), (5, vp it 0)] ∧ h = mapItA i64 mb it es done :: cel c tc [.map (some mb)] :: l1) es.length
    (e0 := [(0, Y), (5, vp it 0)]) (l0 := mapItA i64 mb it es [] :: cel c tc [.map (some mb)] :: l0) (by repeat (first | exact trivial | refine ⟨rfl, ?_⟩)) (by repeat (first | exact trivial | refine ⟨rfl, ?_⟩)) Gh.rfl_ ⟨[], l0, by simp, List.nodup_nil, by simp, h0, rfl, rfl⟩ ?_
  rintro k e h ⟨done, l1, hk, hdn, hsub, hJ, rfl, rfl⟩
  refine Wsr ?_
  refine WpL.step (Stp.nextMap rfl Pk.here rfl ?_ ?_)
  · intro hall
    have hp : done.Perm (akeys es) := (List.perm_ext_iff_of_nodup hdn hnd).2 fun a => ⟨hsub a, hall a⟩
    refine Ls (Rdo.extract rfl rfl) (Lnt (Wp.seq ?_))
    refine Wp.condF rfl ?_
    refine Wp.exit ?_
    refine Thn.x ?_
    refine Thn.x ?_
    refine Blk.here ?_
    refine Ret.end_ ResV.nil (l' := l1 ++ [cel c tc [.map (some mb)], mapA i64 mb es]) ?_ (.inl ⟨done, l1, hp, hJ, rfl⟩)
    refine Gh.trans (Gh.it_done Pk.here) (Gh.perm ?_)
    exact (List.perm_append_comm (l₁ := [mapA i64 mb es, cel c tc [.map (some mb)]]) (l₂ := l1)).trans (List.Perm.append_left l1 (List.Perm.swap _ _ _))
  · intro x u hx hn
    refine Ls (Rdo.extract rfl rfl) (Lnt (Wp.seq ?_))
    refine Wp.condT rfl ?_
    refine Wp.skip (Thn.n (Wp.block (Wsr ?_)))
    refine Ls (Rdo.entryMap rfl (by assumption)) ?_
    refine Ls (Rdo.extract rfl rfl) (Ls (Rdo.assign rfl) (Lnt (Wsr (Ls (Rdo.move rfl) (Ls (Rdo.move rfl) ?_)))))
    have hxk : x ∈ akeys es := List.mem_map.2 ⟨_, hx, rfl⟩
    have hnd2 : (done ++ [x]).Nodup := by
      rw [List.nodup_append]
      exact ⟨hdn, by simp, fun a ha b hb e => hn (by simp only [List.mem_singleton] at hb; rw [← hb, ← e]; exact ha)⟩
    have hsub2 : ∀ y ∈ done ++ [x], y ∈ akeys es := by
      intro y hy
      rcases List.mem_append.1 hy with hy | hy
      · exact hsub y hy
      · simp only [List.mem_singleton] at hy; rw [hy]; exact hxk
    obtain ⟨rest, hrest⟩ : ∃ rest, (done ++ x :: rest).Perm (akeys es) := by
      obtain ⟨rest, hr⟩ := complete_ hnd2 hnd hsub2
      exact ⟨rest, by rw [show done ++ x :: rest = (done ++ [x]) ++ rest by simp]; exact hr⟩
    refine WpL.step (Stp.callV rfl rfl (hY done x rest l1 hrest hJ) (Tk.tail (A := [_, _])) rfl ?_)
    rintro r l2 (⟨rfl, hJ2⟩ | ⟨rfl, hJ2⟩)
    · refine WpL.gh (Gh.perm List.perm_append_comm) ?_
      refine Ll ?_
      refine Ls (Rdo.not rfl) (Lnt ?_)
      refine Wp.condF rfl ?_
      refine Wp.skip (Blk.n (Thn.n ?_))
      have hlt : done.length < es.length := by
        have := hrest.length_eq
        simp [akeys] at this
        omega
      refine ⟨k - 1, _, _, by omega, ⟨done ++ [x], l2, by simp; omega, hnd2, hsub2, hJ2, rfl, rfl⟩, (by repeat (first | exact trivial | refine ⟨rfl, ?_⟩)), Gh.rfl_⟩
    · refine WpL.gh (Gh.perm List.perm_append_comm) ?_
      refine Ll ?_
      refine Ls (Rdo.not rfl) (Lnt ?_)
      refine Wp.condT rfl ?_
      refine Wp.ret ?_
      refine Blk.r ?_
      refine Thn.r ?_
      refine Blk.r ?_
      refine Ret.now ResV.nil (l' := l2 ++ [cel c tc [.map (some mb)], mapA i64 mb es]) ?_ (.inr ⟨_, l2, hJ2, rfl⟩)
      refine Gh.trans (Gh.it_done Pk.here) (Gh.perm ?_)
      exact (List.perm_append_comm (l₁ := [mapA i64 mb es, cel c tc [.map (some mb)]]) (l₂ := l2)).trans (List.Perm.append_left l2 (List.Perm.swap _ _ _))
theorem ranged_ok (b : Nat) (m : Value) (hm : m.oneCell' = true) : Trip Tryz.prog 79 [vp b 0, m] [] (fun r l => ∃ c1 c2, r = .func (.func 96) #[] [vp c1 0, vp c2 0].toArray ∧ l = [cel c2 135 [m], cel c1 42 [vp b 0]]) := by
  refine Trip.of_body Tryz.func79 rfl Tryz.ntmps79 Tryz.results79 rfl ?_
  refine Wsr ?_
  (refine WpL.step (Stp.boxV rfl (VC.p _) rfl ?_); intro nb2)
  (refine WpL.step (Stp.boxV rfl (VC.one (by first | assumption | rfl)) rfl ?_); intro nb3)
  refine Ls (Rdo.assign rfl) (Lnt (Wsr (Ls (Rdo.makeFunc rfl) (Ls (Rdo.assign rfl) (Lnt (Wp.ret ?_))))))
  refine Rt (ResV.tmp rfl ResV.nil) ⟨_, ⟨_, ⟨rfl, rfl⟩⟩⟩
theorem all_ok (b : Nat) : Trip Tryz.prog 58 [vp b 0] [] (fun r l => ∃ c1 c2, r = .func (.func 96) #[] [vp c1 0, vp c2 0].toArray ∧ l = [cel c2 135 [.func (.func 80) #[] #[]], cel c1 42 [vp b 0]]) := by
  refine Trip.of_body Tryz.func58 rfl Tryz.ntmps58 Tryz.results58 rfl ?_
  refine Wsr (Ls (Rdo.assign rfl) (Lnt (Wsr (Ls (Rdo.move rfl) ?_))))
  refine WpL.step (Sc (Tabprod.ranged_ok _ _ (by first | rfl | assumption | omega | (simp <;> done) | (simp <;> omega) | (simp [IntKind.bits]; omega) | simp_all)) rfl ?_)
  rintro _ _ ⟨v9_0, ⟨v9_1, ⟨rfl, rfl⟩⟩⟩
  refine Ll ?_
  refine Ls (Rdo.assign rfl) (Lnt (Wp.ret ?_))
  refine Rt (ResV.tmp rfl ResV.nil) ⟨_, ⟨_, ⟨rfl, rfl⟩⟩⟩
theorem all1_ok (k : Int) : Trip Tryz.prog 80 [vi k] [] (fun r l => r = vb true ∧ l = []) := by
  refine Trip.of_body Tryz.func80 rfl Tryz.ntmps80 Tryz.results80 rfl ?_
  refine Wsr (Ls (Rdo.assign rfl) (Lnt (Wsr (Ls (Rdo.assign rfl) (Lnt (Wp.ret ?_))))))
  refine Rt (ResV.tmp rfl ResV.nil) ⟨rfl, rfl⟩
theorem look_mem {es ss : List (Int × Value)} (hp : ss.Perm es) (hn : (akeys es).Nodup) {k : Int} {v : Value} (h : (k, v) ∈ ss) : alook es k = some v := alook_of_mem hn (hp.mem_iff.1 h)
/-- A table is gone over by rising keys, as it was when one began. -/
theorem allIter (c1 c2 b mb : Nat) (t1 t2 : TypeId) (es ss : List (Int × Value)) (hp : ss.Perm es) (hs : (akeys ss).Pairwise (· ≤ ·)) (hl : es.length ≤ 12) :
    IterOK Tryz.prog 96 [vp c1 0, vp c2 0] (fun x : Int × Value => [vi x.1, x.2]) (tabA b mb es)
      [cel c2 t2 [.func (.func 80) #[] #[]], cel c1 t1 [vp b 0]] (fun xs => xs = ss) := by
  intro Y J Jx hY l0 h0 hsee
  have hsl : ss.length = es.length := hp.length_eq
  obtain ⟨K, hb1, hb2⟩ := hsee
  refine Trip.gh (l' := [cel c2 t2 [.func (.func 80) #[] #[]], cel c1 t1 [vp b 0]] ++ l0) (Gh.perm List.perm_append_comm) ?_
  refine Trip.gh (l' := cel c2 t2 [.func (.func 80) #[] #[]] :: cel c1 t1 [vp b 0] :: cel b 74 [.map (some mb)] :: mapA i64 mb es :: K) (Gh.frame [_, _] hb1) ?_
  refine Trip.get (Pk.next (Pk.next (Pk.next Pk.here))) mapA_nodup ?_
  intro hnd
  refine Trip.of_body Tryz.func96 rfl Tryz.ntmps96 Tryz.results96 rfl ?_
  refine Wp.seq (Wsr (Ls (Rdo.load rfl (Lds.next (Lds.one rfl))) (Ls (Rdo.eqnil rfl rfl) (Lnt ?_))))
  refine Wp.condF rfl ?_
  refine Wp.skip (Thn.n (Wsr (Ls (Rdo.load rfl (Lds.next (Lds.one rfl))) (Ls (Rdo.nilCheck rfl) (Ls (Rdo.fieldAddr0 rfl) (Ls (Rdo.load rfl (Lds.next (Lds.next (Lds.one rfl)))) ?_))))))
  refine WpL.step (Sc (Tabprod.clone_ok _ _) rfl ?_)
  rintro _ _ ⟨v17_0, ⟨rfl, rfl⟩⟩
  refine Ll ?_
  refine Ls (Rdo.assign rfl) (Lnt (Wsr (Ls (Rdo.move rfl) ?_)))
  refine WpL.step (Sc (Tabprod.keys_ok _) rfl ?_)
  rintro _ _ ⟨v26_0, ⟨rfl, rfl⟩⟩
  refine Ll ?_
  have hkl : (akeys ss).length = es.length := by simp [akeys, hsl]
  refine WpL.step (Stp.call (sorted_ok 115 [vp _ 0] [cel _ _ [.map (some _)], mapA i64 _ es] (akeys ss) (by omega) hs (by kernel_rfl) ((keysIter _ _ _ es).perm (hp.symm.map _))) (by kernel_rfl) rfl (Tk.cons Pk.here (Tk.cons (Pk.next Pk.here) Tk.nil)) rfl ?_)
  rintro r _ rfl
  refine Ll ?_
  refine WpL.get Pk.here (fun r => rowA_shape) ?_
  rintro ⟨a0, c0, rfl⟩
  refine Ls (Rdo.lenSlice rfl) (Ls (Rdo.move rfl) (Lnt (Wp.block ?_)))
  generalize hN : (akeys ss).length = N
  refine Wp.loopE (fun k e h => ∃ (i : Nat) (l1 : List HP), i + k = N ∧ J (ss.take i) l1 ∧ e = [(0, Y), (2, vp c2 0), (4, .map (some v17_0)), (16, .slice a0 N c0), (17, vi N), (18, vi i)] ∧
      h = rowA 3 1 (.slice a0 N c0) N ((akeys ss).map vi) :: mapA i64 v17_0 es :: cel c2 t2 [.func (.func 80) #[] #[]] :: cel c1 t1 [vp b 0] :: l1) N
    (e0 := [(0, Y), (2, vp c2 0), (4, .map (some v17_0)), (16, .slice a0 N c0), (17, vi N), (18, vi (0 : Nat))])
    (l0 := rowA 3 1 (.slice a0 N c0) N ((akeys ss).map vi) :: mapA i64 v17_0 es :: cel c2 t2 [.func (.func 80) #[] #[]] :: cel c1 t1 [vp b 0] :: l0) (by rw [← hN]; exact (by repeat (first | exact trivial | refine ⟨rfl, ?_⟩))) (by repeat (first | exact trivial | refine ⟨rfl, ?_⟩)) ?_ ⟨0, l0, by omega, h0, rfl, rfl⟩ ?_
  · rw [← hN]
    refine Gh.trans (Gh.drop (Pk.next Pk.here)) ?_
    refine Gh.trans (Gh.perm (?_ : List.Perm _ ([rowA 3 1 (.slice a0 (akeys ss).length c0) (akeys ss).length ((akeys ss).map vi), mapA i64 v17_0 es, cel c2 t2 [.func (.func 80) #[] #[]], cel c1 t1 [vp b 0]] ++ (tabA b mb es ++ K)))) (Gh.frame _ hb2)
    · (
        refine List.Perm.cons _ (List.Perm.cons _ ?_)
        refine (List.Perm.swap _ _ _).trans (List.Perm.cons _ ?_)
        refine (List.Perm.swap _ _ _).trans (List.Perm.cons _ ?_)
        exact List.Perm.swap _ _ _)
  rintro k e h ⟨i, l1, hik, hJ, rfl, rfl⟩
  by_cases hi : i < N
  · refine Wp.get Pk.here (fun r => rowA_at i hi) ?_
    rintro ⟨bb, oo, cap, he⟩
    simp only [Value.slice.injEq, true_and] at he
    obtain ⟨rfl, rfl⟩ := he
    have his : i < ss.length := by simpa [akeys, ← hN] using hi
    obtain ⟨⟨x, u⟩, hxu⟩ : ∃ p, ss[i]? = some p := ⟨ss[i], List.getElem?_eq_getElem his⟩
    have hx : ((akeys ss).map vi)[i]? = some (vi x) := by simp [akeys, hxu]
    have hmv : mapVal es x (.pointer none) = u := by
      unfold mapVal
      rw [look_mem hp hnd (List.mem_of_getElem? hxu)]
      rfl
    have hsplit : ss.take i ++ (x, u) :: ss.drop (i + 1) = ss := by
      obtain ⟨h1, h2⟩ := List.getElem?_eq_some_iff.1 hxu
      rw [← h2, ← List.drop_eq_getElem_cons h1, List.take_append_drop]
    have htk : ss.take i ++ [(x, u)] = ss.take (i + 1) := by
      obtain ⟨h1, h2⟩ := List.getElem?_eq_some_iff.1 hxu
      rw [← h2, List.take_succ_eq_append_getElem h1]
    refine Wsr (Ls (Rdo.lti rfl rfl) (Lnt (Wp.seq (cK rfl (Wp.skip (Thn.n (Wp.seq (Wp.block (Wsr ?_)))))))))
    refine Ls (Rdo.indexSlice rfl rfl (by omega)) ?_
    refine Ls (Rdo.load rfl (Lds.row1 (by assumption))) ?_
    refine Ls (Rdo.assign rfl) (Lnt (Wsr (Ls (Rdo.load rfl (Lds.next (Lds.next (Lds.one rfl)))) (Ls (Rdo.move rfl) ?_))))
    refine WpL.step (Stp.callv rfl (by kernel_rfl) rfl (Tabprod.all1_ok _) (by repeat (first | exact Tk.nil | apply Tk.cons (by repeat (first | exact Pk.here | apply Pk.next)))) rfl ?_)
    rintro _ _ ⟨rfl, rfl⟩
    refine Ll ?_
    refine Ls (Rdo.move rfl) (Lw rfl rfl (Rdo.move rfl) (Lw rfl rfl (Rdo.move rfl) (Lw rfl rfl (Rdo.move rfl) (Lw rfl rfl (Rdo.move rfl) (Lw rfl rfl (Rdo.lookup1 rfl rfl (Mps.next Mps.here)) ?_)))))
    rw [hmv]
    refine WpL.want rfl rfl rfl (Stp.callV rfl rfl (hY (ss.take i) (x, u) _ l1 hsplit hJ) (Tk.tail (A := [_, _, _, _])) rfl ?_)
    rw [htk]
    rintro r l2 (⟨rfl, hJ2⟩ | ⟨rfl, hJ2⟩)
    · refine WpL.gh (Gh.perm List.perm_append_comm) ?_
      refine Ll ?_
      refine Lw rfl rfl (Rdo.not rfl) (Ls (Rdo.pick_t rfl rfl) (Lnt ?_))
      refine Wp.condF rfl ?_
      refine Wp.skip (Blk.n (Thn.n (Wp.region ?_)))
      refine Ls (Rdo.succ rfl rfl (by omega)) ?_
      refine Ls (Rdo.move rfl) (Lnt ?_)
      refine ⟨k - 1, _, _, by omega, ⟨i + 1, l2, by omega, hJ2, rfl, rfl⟩, (by repeat (first | exact trivial | refine ⟨rfl, ?_⟩)), Gh.rfl_⟩
    · refine WpL.gh (Gh.perm List.perm_append_comm) ?_
      refine Ll ?_
      refine Lw rfl rfl (Rdo.not rfl) (Ls (Rdo.pick_t rfl rfl) (Lnt ?_))
      refine Wp.condT rfl ?_
      refine Wp.ret ?_
      refine Blk.r ?_
      refine Thn.r ?_
      refine Thn.r ?_
      refine Blk.r ?_
      exact Ret.now ResV.nil (Gh.trans (Gh.drop Pk.here) (Gh.trans (Gh.drop Pk.here) (Gh.perm (List.perm_append_comm (l₁ := [_, _]) (l₂ := l2))))) (.inr ⟨_, l2, hJ2, rfl⟩)
  · refine Wsr (Ls (Rdo.lti rfl rfl) (Lnt (Wp.seq (cL rfl ?_))))
    refine Wp.exit ?_
    refine Thn.x ?_
    refine Thn.x ?_
    refine Blk.here ?_
    have hfull : ss.take i = ss := List.take_of_length_le (by simp [akeys] at hN; omega)
    rw [hfull] at hJ
    exact Ret.end_ ResV.nil (Gh.trans (Gh.drop Pk.here) (Gh.trans (Gh.drop Pk.here) (Gh.perm (List.perm_append_comm (l₁ := [_, _]) (l₂ := l1))))) (.inl ⟨ss, l1, rfl, hJ, rfl⟩)
end Tabprod
end Go.Proofs.YtccgdnocldmjeaaGreatDoor
namespace Go.Proofs.YtccgdnocldmjeaaGreatDoor
open Go
set_option maxHeartbeats 4000000
set_option linter.unusedSimpArgs false
set_option linter.unusedVariables false
/-- Kinds of cells that can be compared. -/
inductive CK where
  | i (k : IntKind)
  | b
  | s
  deriving DecidableEq
def okc : CK → Value → Bool
  | .i k, .int k' _ => decide (k' = k)
  | .b, .bool _ => true
  | .s, .string _ => true
  | _, _ => false
def oks : List CK → List Value → Bool
  | [], [] => true
  | c :: cs, v :: vs => okc c v && oks cs vs
  | _, _ => false
theorem oks_len : ∀ {ks : List CK} {xs : List Value}, oks ks xs = true → xs.length = ks.length
  | [], [], _ => rfl
  | [], _ :: _, h => by simp [oks] at h
  | _ :: _, [], h => by simp [oks] at h
  | c :: cs, v :: vs, h => by
    simp only [oks, Bool.and_eq_true] at h
    simp [oks_len h.2]
theorem oks_append : ∀ {k1 k2 : List CK} {xs ys : List Value}, oks k1 xs = true → oks k2 ys = true → oks (k1 ++ k2) (xs ++ ys) = true
  | [], _, [], _, _, h => h
  | [], _, _ :: _, _, h, _ => by simp [oks] at h
  | _ :: _, _, [], _, h, _ => by simp [oks] at h
  | c :: cs, k2, v :: vs, ys, h, h2 => by
    simp only [oks, Bool.and_eq_true] at h
    simp only [List.cons_append, oks, Bool.and_eq_true]
    exact ⟨h.1, oks_append h.2 h2⟩
theorem oks_split : ∀ {k1 k2 : List CK} {xs : List Value}, oks (k1 ++ k2) xs = true → oks k1 (xs.take k1.length) = true ∧ oks k2 (xs.drop k1.length) = true
  | [], _, _, h => ⟨by simp [oks], by simpa using h⟩
  | _ :: _, _, [], h => by simp [oks] at h
  | c :: cs, k2, v :: vs, h => by
    simp only [List.cons_append, oks, Bool.and_eq_true] at h
    obtain ⟨h1, h2⟩ := oks_split h.2
    simp only [List.length_cons, List.take_succ_cons, oks, Bool.and_eq_true, List.drop_succ_cons]
    exact ⟨⟨h.1, h1⟩, h2⟩
def cksF (f : TypeId → Option (List CK)) : List Field → Nat → Option (List CK)
  | [], _ => some []
  | g :: fs, o => if g.name != "_" && g.offset == o then (f g.type).bind fun k => (cksF f fs (o + k.length)).map (k ++ ·) else none
/-- The cells' kinds of a type that can be compared. -/
def cks (P : Program) : Nat → TypeId → Option (List CK)
  | 0, _ => none
  | d + 1, t => match P.underlying t with
    | some .bool => if aggOf P t = some false then some [.b] else none
    | some (.int k) => if aggOf P t = some false then some [.i k] else none
    | some .string => if aggOf P t = some false then some [.s] else none
    | some (.struct fs) => if aggOf P t = some true && !P.stoodInHeld t then (cksF (cks P d) fs.toList 0).bind fun ks => if (P.info? t).map (·.size) = some ks.length then some ks else none else none
    | some (.array n e) => if aggOf P t = some true then (cks P d e).bind fun k => if (P.info? e).map (·.size) = some k.length && P.cellsOf e == k.length && (P.info? t).map (·.size) = some (n * k.length) then some (List.replicate n k).flatten else none else none
    | _ => none
def valOf (ag : Bool) (xs : List Value) : Value := if ag then .agg xs.toArray else xs.headD (.bool false)
def EqvAt (P : Program) (d : Nat) (t : TypeId) (ks : List CK) : Prop :=
  ∃ ag, aggOf P t = some ag ∧ (ag = true → (P.info? t).map (·.size) = some ks.length) ∧ (ag = false → ks.length = 1) ∧
    ∀ w xs ys, oks ks xs = true → oks ks ys = true → ∃ r : Bool, (Op.equalIn d t (valOf ag xs) (valOf ag ys)).run P w = .ok r w ∧ (r = true ↔ xs = ys)
section
variable {P : Program}
theorem part_eqv {d : Nat} {t : TypeId} {ks : List CK} (h : EqvAt P d t ks) {w : World} {xs : List Value} {off : Nat} (hx : oks ks ((xs.drop off).take ks.length) = true) :
    ∃ ag, aggOf P t = some ag ∧ (part t xs.toArray off).run P w = .ok (valOf ag ((xs.drop off).take ks.length)) w := by
  obtain ⟨ag, h1, h2, h3, _⟩ := h
  refine ⟨ag, h1, ?_⟩
  have hl := oks_len hx
  cases ag with
  | true =>
    have hz := h2 rfl
    have ha : AG P t true := ⟨h1⟩
    have hs : SZ P t ks.length := ⟨hz⟩
    simp [part, ha.run, hs.run, valOf, List.extract_eq_take_drop]
  | false =>
    have hk := h3 rfl
    have ha : AG P t false := ⟨h1⟩
    rw [hk] at hl ⊢
    obtain ⟨v, hv⟩ : ∃ v, xs[off]? = some v := by
      have : off < xs.length := by simp at hl; omega
      exact ⟨_, List.getElem?_eq_getElem this⟩
    have hd : (xs.drop off).take 1 = [v] := by
      rw [List.take_one, List.head?_drop, hv]
      rfl
    rw [hd]
    simp [part, ha.run, valOf, hv]
theorem eqStep {d : Nat} {t : TypeId} {ks : List CK} (h : EqvAt P d t ks) {w : World} {xs ys : List Value} {off : Nat} (hx : oks ks ((xs.drop off).take ks.length) = true) (hy : oks ks ((ys.drop off).take ks.length) = true) :
    ∃ a b r, (part t xs.toArray off).run P w = .ok a w ∧ (part t ys.toArray off).run P w = .ok b w ∧ (Op.equalIn d t a b).run P w = .ok r w ∧ (r = true ↔ (xs.drop off).take ks.length = (ys.drop off).take ks.length) := by
  obtain ⟨ag, h1, h2⟩ := part_eqv h (w := w) hx
  obtain ⟨ag', h1', h2'⟩ := part_eqv h (w := w) hy
  obtain ⟨ag2, g1, _, _, g2⟩ := h
  obtain rfl : ag2 = ag := Option.some.inj (g1.symm.trans h1)
  obtain rfl : ag2 = ag' := Option.some.inj (g1.symm.trans h1')
  obtain ⟨r, hr, hiff⟩ := g2 w _ _ hx hy
  exact ⟨_, _, r, h2, h2', hr, hiff⟩
theorem eqFields_ok {d : Nat} (hall : ∀ t ks, cks P d t = some ks → EqvAt P (10000 - 12 + d) t ks) (w : World) : ∀ (fs : List Field) (o : Nat) (ks : List CK), cksF (cks P d) fs o = some ks → ∀ xs ys : List Value, oks ks (xs.drop o) = true → oks ks (ys.drop o) = true →
    ∃ r : Bool, (Op.eqFields (10000 - 12 + d) xs.toArray ys.toArray fs).run P w = .ok r w ∧ (r = true ↔ xs.drop o = ys.drop o)
  | [], o, ks, h, xs, ys, hx, hy => by
    simp only [cksF, Option.some.injEq] at h
    subst h
    have h1 := oks_len hx
    have h2 := oks_len hy
    have e1 : xs.drop o = [] := List.eq_nil_of_length_eq_zero h1
    have e2 : ys.drop o = [] := List.eq_nil_of_length_eq_zero h2
    exact ⟨true, by simp [Op.eqFields], by simp [e1, e2]⟩
  | g :: fs, o, ks, h, xs, ys, hx, hy => by
    simp only [cksF] at h
    split at h
    · rename_i hg
      simp only [Bool.and_eq_true, bne_iff_ne, ne_eq, beq_iff_eq] at hg
      obtain ⟨hn, ho⟩ := hg
      simp only [Option.bind_eq_some_iff, Option.map_eq_some_iff] at h
      obtain ⟨k, hk, k2, hk2, rfl⟩ := h
      obtain ⟨x1, x2⟩ := oks_split hx
      obtain ⟨y1, y2⟩ := oks_split hy
      obtain ⟨a, b, r, p1, p2, p3, hiff⟩ := eqStep (hall _ _ hk) (w := w) x1 y1
      obtain ⟨r', hr', hiff'⟩ := eqFields_ok hall w fs (o + k.length) k2 hk2 xs ys (by rw [← List.drop_drop]; exact x2) (by rw [← List.drop_drop]; exact y2)
      rw [← ho] at p1 p2
      have hsplit : (xs.drop o = ys.drop o) ↔ ((xs.drop o).take k.length = (ys.drop o).take k.length ∧ xs.drop (o + k.length) = ys.drop (o + k.length)) := by
        constructor
        · intro e
          rw [e, ← List.drop_drop, e, List.drop_drop]
          exact ⟨rfl, rfl⟩
        · rintro ⟨e1, e2⟩
          rw [← List.take_append_drop k.length (xs.drop o), ← List.take_append_drop k.length (ys.drop o), e1, List.drop_drop, List.drop_drop, e2]
      simp only [Op.eqFields, hn, ne_eq, not_false_eq_true, if_true, Sem.run_bind, p1, p2, p3, Result.andThen_ok]
      rw [hsplit]
      cases r
      · exact ⟨false, by simp, by simp; intro e; exact absurd (hiff.2 e) (by simp)⟩
      · refine ⟨r', by simpa using hr', ?_⟩
        rw [hiff']
        simp [hiff.1 rfl]
    · cases h
theorem eqItems_ok {dd : Nat} {e : TypeId} {k : List CK} (IH : EqvAt P dd e k) (w : World) (xs ys : List Value) : ∀ (is : List Nat), (∀ i ∈ is, oks k ((xs.drop (i * k.length)).take k.length) = true ∧ oks k ((ys.drop (i * k.length)).take k.length) = true) →
    ∃ r : Bool, (Op.eqItems dd e k.length xs.toArray ys.toArray is).run P w = .ok r w ∧ (r = true ↔ ∀ i ∈ is, (xs.drop (i * k.length)).take k.length = (ys.drop (i * k.length)).take k.length)
  | [], _ => ⟨true, by simp [Op.eqItems], by simp⟩
  | i :: is, h => by
    obtain ⟨x1, y1⟩ := h i (by simp)
    obtain ⟨a, b, r, p1, p2, p3, hiff⟩ := eqStep IH (w := w) x1 y1
    obtain ⟨r', hr', hiff'⟩ := eqItems_ok IH w xs ys is fun j hj => h j (by simp [hj])
    simp only [Op.eqItems, Sem.run_bind, p1, p2, p3, Result.andThen_ok, List.forall_mem_cons]
    cases r
    · exact ⟨false, by simp, by simp; intro e; exact absurd (hiff.2 e) (by simp)⟩
    · refine ⟨r', by simpa using hr', ?_⟩
      rw [hiff']
      simp [hiff.1 rfl]
theorem oks_rep {k : List CK} : ∀ {n : Nat} {xs : List Value}, oks (List.replicate n k).flatten xs = true → ∀ i < n, oks k ((xs.drop (i * k.length)).take k.length) = true
  | 0, _, _, i, hi => by omega
  | n + 1, xs, h, i, hi => by
    rw [List.replicate_succ, List.flatten_cons] at h
    obtain ⟨h1, h2⟩ := oks_split h
    cases i with
    | zero => simpa using h1
    | succ i =>
      have := oks_rep h2 i (by omega)
      rw [List.drop_drop] at this
      rwa [show k.length + i * k.length = (i + 1) * k.length by rw [Nat.add_mul]; omega] at this
theorem ext_rep {m : Nat} : ∀ {n : Nat} {xs ys : List Value}, xs.length = n * m → ys.length = n * m → ((∀ i ∈ List.range n, (xs.drop (i * m)).take m = (ys.drop (i * m)).take m) ↔ xs = ys)
  | n, xs, ys, hx, hy => by
    constructor
    · intro h
      have key : ∀ j, j ≤ n → xs.take (j * m) = ys.take (j * m) := by
        intro j
        induction j with
        | zero => simp
        | succ j ih =>
          intro hj
          rw [Nat.add_mul, Nat.one_mul, List.take_add, List.take_add, ih (by omega), h j (by simp; omega)]
      have := key n (Nat.le_refl _)
      rwa [List.take_of_length_le (by omega), List.take_of_length_le (by omega)] at this
    · rintro rfl _ _
      rfl
theorem cks_ok : ∀ (d : Nat) (t : TypeId) (ks : List CK), cks P d t = some ks → EqvAt P (10000 - 12 + d) t ks
  | 0, _, _, h => by simp [cks] at h
  | d + 1, t, ks, h => by
    unfold cks at h
    split at h
    · rename_i hu
      split at h
      · rename_i ha
        cases h
        refine ⟨false, ha, by simp, by simp, fun w xs ys hx hy => ?_⟩
        obtain ⟨v, rfl⟩ := List.length_eq_one_iff.1 (oks_len hx)
        obtain ⟨u, rfl⟩ := List.length_eq_one_iff.1 (oks_len hy)
        simp only [oks, Bool.and_true] at hx hy
        cases v <;> simp [okc] at hx
        cases u <;> simp [okc] at hy
        exact ⟨_, run_equalIn_bool' w _ t _ _ hu, by simp⟩
      · cases h
    · rename_i k hu
      split at h
      · rename_i ha
        cases h
        refine ⟨false, ha, by simp, by simp, fun w xs ys hx hy => ?_⟩
        obtain ⟨v, rfl⟩ := List.length_eq_one_iff.1 (oks_len hx)
        obtain ⟨u, rfl⟩ := List.length_eq_one_iff.1 (oks_len hy)
        simp only [oks, Bool.and_true] at hx hy
        cases v <;> simp [okc] at hx
        cases u <;> simp [okc] at hy
        subst hx
        subst hy
        exact ⟨_, run_equalIn_int w _ t _ _ _ _ hu, by simp⟩
      · cases h
    · rename_i hu
      split at h
      · rename_i ha
        cases h
        refine ⟨false, ha, by simp, by simp, fun w xs ys hx hy => ?_⟩
        obtain ⟨v, rfl⟩ := List.length_eq_one_iff.1 (oks_len hx)
        obtain ⟨u, rfl⟩ := List.length_eq_one_iff.1 (oks_len hy)
        simp only [oks, Bool.and_true] at hx hy
        cases v <;> simp [okc] at hx
        cases u <;> simp [okc] at hy
        refine ⟨_, run_equalIn_string w _ t _ _ hu, ?_⟩
        rename_i s1 s2
        simp only [beq_iff_eq, List.cons.injEq, Value.string.injEq, and_true]
        constructor
        · intro h
          rw [ByteArray.toList_eq, ByteArray.toList_eq] at h
          exact ByteArray.ext (Array.toList_inj.1 h)
        · rintro rfl
          rfl
      · cases h
    · rename_i fs hu
      split at h
      · rename_i ha
        simp only [Bool.and_eq_true, decide_eq_true_eq, Bool.not_eq_true'] at ha
        obtain ⟨ha, hst⟩ := ha
        simp only [Option.bind_eq_some_iff] at h
        obtain ⟨ks', hks, h⟩ := h
        split at h
        · rename_i hsz
          cases h
          refine ⟨true, ha, fun _ => hsz, by simp, fun w xs ys hx hy => ?_⟩
          have hfs : P.fieldsOf t = fs := by simp [Program.fieldsOf, hu]
          obtain ⟨r, hr, hiff⟩ := eqFields_ok (fun t ks h => cks_ok d t ks h) w fs.toList 0 ks hks xs ys (by simpa using hx) (by simpa using hy)
          refine ⟨r, ?_, by simpa using hiff⟩
          simp only [valOf, if_true]
          rw [show 10000 - 12 + (d + 1) = (10000 - 12 + d) + 1 from rfl, run_equalIn_struct w _ t _ _ (by rw [hfs]; exact hu) hst, hfs]
          exact hr
        · cases h
      · cases h
    · rename_i n e hu
      split at h
      · rename_i ha
        simp only [Option.bind_eq_some_iff] at h
        obtain ⟨k, hk, h⟩ := h
        split at h
        · rename_i hc
          simp only [Bool.and_eq_true, decide_eq_true_eq, beq_iff_eq] at hc
          obtain ⟨⟨hse, hce⟩, hst⟩ := hc
          cases h
          have hlen : (List.replicate n k).flatten.length = n * k.length := by simp
          refine ⟨true, ha, fun _ => by rw [hlen]; exact hst, by simp, fun w xs ys hx hy => ?_⟩
          obtain ⟨r, hr, hiff⟩ := eqItems_ok (cks_ok d e k hk) w xs ys (List.range n) (fun i hi => ⟨oks_rep hx i (by simpa using hi), oks_rep hy i (by simpa using hi)⟩)
          obtain ⟨inf, hinf, _⟩ := Option.map_eq_some_iff.1 hse
          refine ⟨r, ?_, by rw [hiff]; exact ext_rep (by rw [oks_len hx, hlen]) (by rw [oks_len hy, hlen])⟩
          simp only [valOf, if_true]
          rw [show 10000 - 12 + (d + 1) = (10000 - 12 + d) + 1 from rfl, run_equalIn_array w _ _ _ hu hinf, hce]
          exact hr
        · cases h
      · cases h
    · cases h
/-- A type whose values can be compared, by the kinds of their cells. -/
class CKS (P : Program) (t : TypeId) (ks : outParam (List CK)) : Prop where
  pf : cks P 12 t = some ks
  gd : P.eqGuardType P.depth t = false
  ag : aggOf P t = some true
theorem CKS.run {t : TypeId} {ks : List CK} (h : CKS P t ks) {xs ys : List Value} (hx : oks ks xs = true) (hy : oks ks ys = true) (w : World) : ∃ r : Bool, (Op.equalIn 10000 t (.agg xs.toArray) (.agg ys.toArray)).run P w = .ok r w ∧ (r = true ↔ xs = ys) := by
  obtain ⟨ag, h1, _, _, h2⟩ := cks_ok 12 t ks h.pf
  obtain rfl : ag = true := Option.some.inj (h1.symm.trans h.ag)
  exact h2 w xs ys hx hy
open Classical in
theorem CKS.dec {t : TypeId} {ks : List CK} (h : CKS P t ks) {xs ys : List Value} (hx : oks ks xs = true) (hy : oks ks ys = true) (w : World) : (Op.equalIn 10000 t (.agg xs.toArray) (.agg ys.toArray)).run P w = .ok (decide (xs = ys)) w := by
  obtain ⟨r, hr, hiff⟩ := h.run hx hy w
  rw [hr]
  congr 1
  rw [Bool.eq_iff_iff, hiff]
  simp
open Classical in
theorem Rdo.eqagg {e : Env} {C : List HP} {x y : Operand} {t u ty : TypeId} {ks : List CK} {xs ys : List Value} [h : CKS P t ks] (hx : evl e x = some (.agg xs.toArray)) (hy : evl e y = some (.agg ys.toArray)) (h1 : oks ks xs = true) (h2 : oks ks ys = true) :
    Rdo P e C (.binOp .eql t x y u) ty (.bool (decide (xs = ys))) := by
  unfold Rdo
  intro G w a n dst pos after g hG he
  simp [execOp, he.eval hx, he.eval hy, run_eqGuard_agg w _ _ _ _ _ _ h.gd, run_eql_struct, h.dec h1 h2 w]
open Classical in
theorem Rdo.neagg {e : Env} {C : List HP} {x y : Operand} {t u ty : TypeId} {ks : List CK} {xs ys : List Value} [h : CKS P t ks] (hx : evl e x = some (.agg xs.toArray)) (hy : evl e y = some (.agg ys.toArray)) (h1 : oks ks xs = true) (h2 : oks ks ys = true) :
    Rdo P e C (.binOp .neq t x y u) ty (.bool (!decide (xs = ys))) := by
  unfold Rdo
  intro G w a n dst pos after g hG he
  have hb : (binOp .neq t (.agg xs.toArray) (.agg ys.toArray)).run P w = .ok (.bool (!decide (xs = ys))) w := by
    simp [binOp, Op.equal, Op.maxDepth, h.dec h1 h2 w]
  simp [execOp, he.eval hx, he.eval hy, run_eqGuard_agg w _ _ _ _ _ _ h.gd, hb]
end
end Go.Proofs.YtccgdnocldmjeaaGreatDoor
namespace Go.Proofs.YtccgdnocldmjeaaGreatDoor
open Go
set_option maxHeartbeats 4000000
set_option linter.unusedSimpArgs false
set_option linter.unusedVariables false
section
variable {P : Program} {κ : Type} [DecidableEq κ] {enc : κ → List Value} {kt : TypeId} {ks : List CK}
theorem findAsk_ok (h : CKS P kt ks) (ho : ∀ k, oks ks (enc k) = true) (hi : ∀ a b, enc a = enc b ↔ a = b) (k : κ) (w : World) :
    ∀ (es : List (κ × Value)) (bs : List Nat) (i : Nat), bs.length = es.length →
      (Instr.findAsking kt (.agg (enc k).toArray) (rawEs (fun k => .agg (enc k).toArray) es bs) i).run P w = .ok ((aidx es k).bind fun j => (alook es k).map fun v => (i + j, v)) w
  | [], bs, i, _ => by simp [rawEs, Instr.findAsking, aidx]
  | (x, v) :: es, [], i, hl => by simp at hl
  | (x, v) :: es, b :: bs, i, hl => by
    have ih := findAsk_ok h ho hi k w es bs (i + 1) (by simpa using hl)
    obtain ⟨r, hr, hiff⟩ := h.run (ho k) (ho x) w
    have e0 : rawEs (fun k => Value.agg (enc k).toArray) ((x, v) :: es) (b :: bs) = ⟨.agg (enc x).toArray, v, b⟩ :: rawEs (fun k => Value.agg (enc k).toArray) es bs := rfl
    rw [e0]
    unfold Instr.findAsking
    rw [Sem.run_bind]
    have hd' : (Op.equal kt (.agg (enc k).toArray) (.agg (enc x).toArray)).run P w = .ok r w := hr
    rw [hd', Result.andThen_ok]
    by_cases hx : x = k
    · subst hx
      have : r = true := hiff.2 rfl
      subst this
      simp [aidx, alook]
    · have hne : r = false := by
        cases r
        · rfl
        · exact absurd ((hi _ _).1 (hiff.1 rfl)).symm hx
      subst hne
      simp only [Bool.false_eq_true, if_false, ih, aidx, alook, if_neg hx]
      cases aidx es k <;> simp
      rename_i j
      cases alook es k <;> simp
      omega
def isStr : Option TypeDesc → Bool
  | some (.struct _) => true
  | _ => false
theorem isStr_get {o : Option TypeDesc} (h : isStr o = true) : ∃ fs, o = some (.struct fs) := by
  unfold isStr at h
  split at h
  · exact ⟨_, rfl⟩
  · cases h
theorem keyS (h : CKS P kt ks) (ho : ∀ k, oks ks (enc k) = true) (hi : ∀ a b, enc a = enc b ↔ a = b) (hu' : isStr (P.underlying kt) = true)
    (hc : ∀ (e : Bool) (k : κ) (w : World), (Instr.checkKey e 10000 kt (.agg (enc k).toArray)).run P w = .ok () w)
    (hs : ∀ k, Instr.sameBits 10000 (.agg (enc k).toArray) (.agg (enc k).toArray) = true) : KeyT P kt (fun k => .agg (enc k).toArray) where
  chk := hc
  fnd k es bs w hl := by
    obtain ⟨fs, hu⟩ := isStr_get hu'
    have h1 := findAsk_ok h ho hi k w es bs 0 hl
    simp only [Nat.zero_add] at h1
    unfold Instr.findKey
    rw [Sem.run_bind, run_underlying hu, Result.andThen_ok]
    match es, bs, hl with
    | [], bs, _ =>
      simp [rawEs, Instr.findNow, aidx]
    | (x, v) :: es, b :: bs, hl =>
      have e0 : rawEs (fun k => Value.agg (enc k).toArray) ((x, v) :: es) (b :: bs) = ⟨.agg (enc x).toArray, v, b⟩ :: rawEs (fun k => Value.agg (enc k).toArray) es bs := rfl
      have e1 : Instr.findNow (.struct fs) (.agg (enc k).toArray) (rawEs (fun k => Value.agg (enc k).toArray) ((x, v) :: es) (b :: bs)) 0 = none := by rw [e0]; rfl
      rw [e1]
      exact h1
  same := hs
end
end Go.Proofs.YtccgdnocldmjeaaGreatDoor
namespace Go.Proofs.YtccgdnocldmjeaaGreatDoor
open Go
-- 34: api.Reply
instance : CKS Tryz.prog 34 ([.i .i64, .i .i64, .i .i64]) := ⟨by kernel_rfl, by kernel_rfl, by kernel_rfl⟩
-- 38: api.Op
instance : CKS Tryz.prog 38 ([.i .i64, .i .i64, .i .i64, .s, .i .i64, .i .i64, .i .i64, .i .i64, .b]) := ⟨by kernel_rfl, by kernel_rfl, by kernel_rfl⟩
-- 53: coord.asked
instance : CKS Tryz.prog 53 ([.i .i64, .i .i64]) := ⟨by kernel_rfl, by kernel_rfl, by kernel_rfl⟩
-- 59: seneschalref10.done
-- 61: api.Mark
instance : CKS Tryz.prog 61 ([.i .i64, .i .i64, .i .i64, .i .i64]) := ⟨by kernel_rfl, by kernel_rfl, by kernel_rfl⟩
-- 64: [32]uint8
-- 65: api.Hash
instance : CKS Tryz.prog 65 (List.replicate 32 (.i .u8)) := ⟨by kernel_rfl, by kernel_rfl, by kernel_rfl⟩
-- 125: [8]uint32
-- 126: digest.state
-- 127: [64]uint32
-- 131: [128]uint8
-- 137: [256]bool
-- 177: [256]uint8
-- 180: [16]utf8.acceptRange
end Go.Proofs.YtccgdnocldmjeaaGreatDoor
namespace Go.Proofs.YtccgdnocldmjeaaGreatDoor
open Go
set_option maxHeartbeats 4000000
set_option linter.unusedSimpArgs false
set_option linter.unusedVariables false
set_option maxRecDepth 20000
abbrev RdBytes (g : FH) (v : Value) (bs : List UInt8) : Prop := RdRow g 1 v bs.length (bytesC bs)
theorem bytesC_length (bs : List UInt8) : (bytesC bs).length = bs.length := by simp [bytesC]
theorem oneCells_bytesC (bs : List UInt8) : oneCells (bytesC bs) := by
  intro v hv
  obtain ⟨b, _, rfl⟩ := List.mem_map.1 hv
  rfl
theorem shape_bytes {v : Value} {bs : List UInt8} (r : Res) (h : fz (fun g => RdBytes g v bs) r) : ∃ a c, v = .slice a bs.length c := by
  unfold fz at h
  obtain ⟨_, a, c, h2, _⟩ := h
  exact ⟨a, c, h2⟩
theorem nil_bytes {n c : Nat} {bs : List UInt8} (r : Res) (h : fz (fun g => RdBytes g (.slice none n c) bs) r) : bs = [] := by
  unfold fz at h
  obtain ⟨_, a, c', h2, h3⟩ := h
  simp only [Value.slice.injEq] at h2
  obtain ⟨rfl, rfl, rfl⟩ := h2
  rcases h3 with h3 | ⟨b, o, h3, _⟩
  · exact List.eq_nil_of_length_eq_zero h3
  · cases h3
theorem Gh.noBytes {l : List HP} {a : Option Addr} {c : Nat} : Gh l (fz (fun g => RdBytes g (.slice a 0 c) []) :: l) := Gh.fzTrue fun g => RdRow.nil g 1 a c
theorem bytesClone_ok (v : Value) (bs : List UInt8) (hb : bs.length ≤ 1099511627776) :
    Trip Tryz.prog 53 [v] [fz (fun g => RdBytes g v bs)] (fun r l => ∃ a c, r = .slice a bs.length c ∧ l = [fz (fun g => RdBytes g (.slice a bs.length c) bs), fz (fun g => RdBytes g v bs)]) := by
  refine Trip.get Pk.here shape_bytes ?_
  rintro ⟨a, c, rfl⟩
  cases a with
  | none =>
    refine Trip.get Pk.here nil_bytes ?_
    rintro rfl
    refine Trip.of_body Tryz.func53 rfl Tryz.ntmps53 Tryz.results53 rfl ?_
    refine Wsr (Ls (Rdo.assign rfl) (Lnt (Wp.seq (Wsr (Ls (Rdo.move rfl) (Ls (Rdo.eqslnil rfl rfl) (Lnt ?_)))))))
    refine Wp.condT rfl ?_
    refine Wsr (Ls (Rdo.assign rfl) (Lnt (Wp.ret ?_)))
    refine Thn.r ?_
    exact Ret.now (ResV.tmp rfl ResV.nil) Gh.noBytes ⟨none, 0, rfl, rfl⟩
  | some a =>
    refine Trip.of_body Tryz.func53 rfl Tryz.ntmps53 Tryz.results53 rfl ?_
    refine Wsr (Ls (Rdo.assign rfl) (Lnt (Wp.seq (Wsr (Ls (Rdo.move rfl) (Ls (Rdo.eqslnil rfl rfl) (Lnt ?_)))))))
    refine Wp.condF rfl ?_
    refine Wp.skip (Thn.n (Wsr ?_))
    refine WpL.step (Stp.slice (ps := []) (vs := []) (cs := []) rfl rfl (by simp) (by simp) (by omega) rfl ?_)
    intro b
    refine WpL.gh (Gh.row (n := 0) (sz := 1) Pk.here (by simp)) ?_
    refine Ls (Rdo.move rfl) ?_
    refine WpL.step (Stp.append0 rfl rfl Src.frozen (by simp [bytesC_length]) (oneCells_bytesC bs) (by omega) (by omega) rfl (by rfl) ?_)
    intro a' c'
    refine Ls (Rdo.assign rfl) (Lnt (Wp.ret ?_))
    exact Ret.now (ResV.tmp rfl ResV.nil) (Gh.ice Pk.here) ⟨_, _, rfl, rfl⟩
end Go.Proofs.YtccgdnocldmjeaaGreatDoor
namespace Go.Proofs.YtccgdnocldmjeaaGreatDoor
open Go
set_option maxHeartbeats 4000000
set_option linter.unusedSimpArgs false
set_option linter.unusedVariables false
theorem Stp.strBytes {P : Program} {n d : Nat} {x : Operand} {src dst e' ty : TypeId} {pos : String} {after : Array Edge} {g : Option (Nat × Bool)} {e : Env} {l : List HP} {Φ : Env → List HP → Prop} {s : List UInt8}
    [hs : ST P src] [ht : EL P dst e'] [he' : IK P e' .u8] (hx : evl e x = some (vs s)) (hd : Nat.blt d n = true)
    (hk : ∀ a c, Φ (eset e d (.slice a s.length c)) (fz (fun g => RdBytes g (.slice a s.length c) s) :: l)) :
    Stp P n ⟨some d, .convert src dst x, ty, pos, after, g⟩ e l Φ := by
  unfold Stp
  intro F w a ds hl he K Q0 hK
  have hr := run_bytes_of_string (P := P) w src dst e' ⟨s.toArray⟩ hs.pf ht.pf he'.pf
  rw [size_vs] at hr
  generalize hcap : grownCap w s.length 0 e' = cap at hr
  have hge : s.length ≤ cap := by rw [← hcap]; exact grownCap_ge w s.length 0 e'
  have hcells : (bytesRow ⟨s.toArray⟩ cap).toList = bytesC s ++ List.replicate (cap - s.length) (.int .u8 0) := by
    simp [bytesRow, bytesC, u8c, size_vs]
  have hh : Holds (fz (fun g => RdBytes g (.slice (some ⟨w.heap.size, 0, none⟩) s.length cap) s) :: l) F (w.drew.alloc (.cells (bytesRow ⟨s.toArray⟩ cap) e' ((bytesRow ⟨s.toArray⟩ cap).size, (bytesRow ⟨s.toArray⟩ cap).size + 1))) := by
    have h1 := hl.drew.alloc (.cells (bytesRow ⟨s.toArray⟩ cap) e' ((bytesRow ⟨s.toArray⟩ cap).size, (bytesRow ⟨s.toArray⟩ cap).size + 1))
    refine Holds.freeze_fz (fun g hg => ⟨by simp [bytesC], _, cap, rfl, .inr ⟨_, 0, rfl, _, _, _, hg, fun j v hj => ?_⟩⟩) h1
    rw [Nat.zero_add, ← Array.getElem?_toList, hcells, List.getElem?_append_left (List.getElem?_eq_some_iff.1 hj).1]
    exact hj
  unfold OpW
  have : (execOp a.eval ⟨some d, .convert src dst x, ty, pos, after, g⟩).run P w = .ok (.value (.slice (some ⟨w.heap.size, 0, none⟩) s.length cap)) (w.drew.alloc (.cells (bytesRow ⟨s.toArray⟩ cap) e' ((bytesRow ⟨s.toArray⟩ cap).size, (bytesRow ⟨s.toArray⟩ cap).size + 1))) := by
    simp only [execOp, he.eval hx, Sem.run_bind, hr, Result.andThen_ok, Sem.run_pure]
  rw [this]
  exact hK _ _ _ _ (he.put _ hd) hh ((Ext.drew w).trans (Ext.alloc _ _)) (hk _ _)
/-- Bytes that were written out, as a constant's. -/
theorem Stp.convBytes {P : Program} {n d b m c : Nat} {x : Operand} {t t' e' ty : TypeId} {pos : String} {after : Array Edge} {g : Option (Nat × Bool)} {e : Env} {l rest : List HP} {Φ : Env → List HP → Prop} {cs : List Value}
    [ht : EL P t e'] [he' : IK P e' .u8] (hx : evl e x = some (.slice (some ⟨b, 0, none⟩) m c)) (hd : Nat.blt d n = true) (hp : Pk l (cel b t' cs) rest) (hm : cs.length = m)
    (hk : Φ (eset e d (.slice (some ⟨b, 0, none⟩) m c)) (fz (fun g => RdRow g 1 (.slice (some ⟨b, 0, none⟩) m c) m cs) :: rest)) :
    Stp P n ⟨some d, .convert t t x, ty, pos, after, g⟩ e l Φ := by
  unfold Stp
  intro F w a ds hl he K Q0 hK
  unfold Pk at hp
  have h1 := hl.perm hp
  have hb := cel_sees h1
  have hlt : b < w.heap.size := (Array.getElem?_eq_some_iff.1 hb).1
  have hsh : w.shape? b = some (t', cs.toArray.size) := by
    unfold World.shape?
    rw [hb]
  have hr : (convert t t (.slice (some ⟨b, 0, none⟩) m c)).run P w = .ok (.slice (some ⟨b, 0, none⟩) m c) (w.freeze ⟨b, cs.toArray.size, none⟩ 1) := by
    simp [convert, run_underlying ht.pf, run_underlying he'.pf, markStringish, hsh]
  have hb2 : (w.freeze ⟨b, cs.toArray.size, none⟩ 1).heap[b]? = some (.cells cs.toArray t' (cs.toArray.size, cs.toArray.size + 1)) := by
    unfold World.freeze
    rw [if_neg (by decide)]
    simp only [Array.getElem?_modify]
    rw [hb]
    simp
  have hold : ∀ k, k ≠ b → (w.freeze ⟨b, cs.toArray.size, none⟩ 1).heap[k]? = w.heap[k]? := by
    intro k hk
    unfold World.freeze
    rw [if_neg (by decide)]
    simp only [Array.getElem?_modify]
    rw [if_neg (fun h => hk h.symm)]
  have hh : Holds (fz (fun g => RdRow g 1 (.slice (some ⟨b, 0, none⟩) m c) m cs) :: rest) F (w.freeze ⟨b, cs.toArray.size, none⟩ 1) := by
    refine Holds.freeze_fz (fun g hg => ⟨by simp [hm], _, c, rfl, .inr ⟨b, 0, rfl, _, _, _, hg, fun j v hj => ?_⟩⟩) (Holds.put (by unfold cel at h1; exact h1) hb2 (fun k hk _ => hold k hk))
    simpa using hj
  unfold OpW
  have : (execOp a.eval ⟨some d, .convert t t x, ty, pos, after, g⟩).run P w = .ok (.value (.slice (some ⟨b, 0, none⟩) m c)) (w.freeze ⟨b, cs.toArray.size, none⟩ 1) := by
    simp only [execOp, he.eval hx, Sem.run_bind, hr, Result.andThen_ok, Sem.run_pure]
  rw [this]
  exact hK _ _ _ _ (he.put _ hd) hh ⟨rfl, rfl, rfl, by simp [World.freeze]⟩ hk
/-- An empty slice that is written out. -/
theorem Stp.slice0 {P : Program} {n d t ty e' sz : Nat} {pos : String} {after : Array Edge} {g : Option (Nat × Bool)} {e : Env} {l : List HP} {Φ : Env → List HP → Prop} {zs : List Value} [ht : EL P t e'] [hz : SZ P e' sz] [hzv : ZV P e' zs]
    (hd : Nat.blt d n = true) (hk : ∀ b, Φ (eset e d (.slice (some ⟨b, 0, none⟩) 0 0)) (rowA e' sz (.slice (some ⟨b, 0, none⟩) 0 0) 0 [] :: l)) :
    Stp P n ⟨some d, .buildSlice t 0 (#[] : Array (Nat × Operand)), ty, pos, after, g⟩ e l Φ := by
  have h : Stp P n ⟨some d, .buildSlice t 0 (#[] : Array (Nat × Operand)), ty, pos, after, g⟩ e l (fun e1 l1 => ∃ b, e1 = eset e d (.slice (some ⟨b, 0, none⟩) 0 0) ∧ l1 = cel b e' [] :: l) :=
    Stp.slice (ps := []) (vs := []) (cs := []) (k := 0) rfl rfl (by simp) (by simp) (by omega) hd (fun b => ⟨b, rfl, rfl⟩)
  unfold Stp at h ⊢
  intro F w a ds hl he K Q0 hK
  refine h F w a ds hl he K Q0 ?_
  rintro _ _ _ _ h1 h2 h3 ⟨b, rfl, rfl⟩
  exact hK _ _ _ _ h1 ((Gh.row (n := 0) (sz := sz) Pk.here (by simp)).use h2) h3 (hk b)
theorem Rdo.indexSliceE {P : Program} {e : Env} {C : List HP} {x y : Operand} {b off len cap z : Nat} {i : Nat} {j : Int} {t e' ty : TypeId} {k : IntKind} [h : EL P t e'] [hz : SZ P e' z] (hx : evl e x = some (.slice (some ⟨b, off, none⟩) len cap)) (hy : evl e y = some (.int k j)) (hj : j = (i : Int)) (hi : i < len) :
    Rdo P e C (.indexAddr t x y) ty (.pointer (some ⟨b, off + i * z, none⟩)) := by
  subst hj
  exact Rdo.indexSlice hx hy hi
theorem Rdo.indexArrE {P : Program} {e : Env} {C : List HP} {x y : Operand} {b off len z : Nat} {i : Nat} {j : Int} {t e' ty : TypeId} {k : IntKind} [h : AR P t len e'] [hz : SZ P e' z] (hx : evl e x = some (.pointer (some ⟨b, off, none⟩))) (hy : evl e y = some (.int k j)) (hj : j = (i : Int)) (hi : i < len) :
    Rdo P e C (.indexAddr t x y) ty (.pointer (some ⟨b, off + i * z, none⟩)) := by
  subst hj
  exact Rdo.indexArr hx hy hi
/-- A cell within an element of a row. -/
theorem Lds.rowF {P : Program} {l : List HP} {t ty : TypeId} {sz n cap b o i off : Nat} {xs : List Value} {v : Value} [ha : AG P ty false] (hx : xs[i * sz + off]? = some v) :
    Lds P (rowA t sz (.slice (some ⟨b, o, none⟩) n cap) n xs :: l) ⟨b, o + i * sz + off, none⟩ ty v := by
  unfold Lds
  intro F w hl
  have := row_cell hl (i * sz + off) v hx
  rw [← Nat.add_assoc] at this
  simp [Instr.loadAt, Instr.sureAddr, loadVar, ha.run, this]
/-- An array of nothing. -/
theorem Rdo.bldArr0 {P : Program} {e : Env} {C : List HP} {t ty n e' z : Nat} {zs : List Value} [hz : ZV P t zs] [ha : AR P t n e'] [hs : SZ P e' z] : Rdo P e C (.build t (#[] : Array (Nat × Operand))) ty (.agg zs.toArray) := by
  unfold Rdo
  intro G w a m dst pos after g hl he
  obtain ⟨x, hzr, hzc⟩ := hz.run (w := w)
  simp [execOp, Instr.build, hzr, run_underlying ha.pf, hs.run, hzc, Instr.fill]
/-- Cells out of the middle of a block, as a whole. -/
theorem Lds.cut {P : Program} {l : List HP} {b off n : Nat} {t' t : TypeId} {cs vs : List Value} [ha : AG P t true] [hz : SZ P t n] (hv : (cs.drop off).take n = vs) (hn : vs.length = n) : Lds P (cel b t' cs :: l) ⟨b, off, none⟩ t (.agg vs.toArray) := by
  by_cases ho : off ≤ cs.length
  · refine Lds.part (pre := cs.take off) (post := (cs.drop off).drop n) ?_ (by simp; omega) hn
    rw [← hv, List.take_append_drop, List.take_append_drop]
  · have h0 : vs = [] := by rw [← hv, List.drop_eq_nil_of_le (by omega)]; simp
    subst h0
    simp at hn
    subst hn
    unfold Lds
    intro F w hl
    have := run_loadCells_list (P := P) w ⟨b, off, none⟩ [] (fun j v hj => by simp at hj)
    simp only [List.length_nil] at this
    simp [Instr.loadAt, Instr.sureAddr, loadVar, ha.run, hz.run, this]
/-- A guard that was itself not wanted: not wanted. -/
theorem WpL.passU {P : Program} {n : Nat} {ops : Array Oper} {Q : Exit → Env → List HP → Prop} {e : Env} {l : List HP} {d : Nat} {op : Op} {ty : TypeId} {pos : String} {after : Array Edge} {rest : List Oper} {j t : Nat} {b : Bool}
    (ht : (ops[j]?).bind (·.dst) = some t) (hv : elook e t = some undef) (hd : Nat.blt d n = true)
    (h : WpL P n ops Q rest (eset e d undef) l) : WpL P n ops Q (⟨some d, op, ty, pos, after, some (j, b)⟩ :: rest) e l := by
  unfold WpL at h ⊢
  intro F w a ds hl he
  have hy : yielded ops a.tmps j = none := by simp [yielded, ht, he.at_ t _ hv, undef]
  unfold wpListIn
  rw [if_neg (by simp [Region.wanted, hy])]
  exact h F w _ ds hl (he.put undef hd)
theorem WpR.passU {P : Program} {n : Nat} {ops : Array Oper} {Q : Exit → Env → List HP → Prop} {e : Env} {l : List HP} {m : Nat} {listed : Array Bool} {i d j t : Nat} {b : Bool} {op : Op} {ty : TypeId} {pos : String} {after : Array Edge} (hi : ops[i]? = some ⟨some d, op, ty, pos, after, some (j, b)⟩) (ht : (ops[j]?).bind (·.dst) = some t) (hc : elook e t = some undef)
    (hsel : Region.noSelect ops = true) (hfree : Region.free .any ops listed i = true) (hr : (Region.ready .any ops listed).contains i = true) (hd : Nat.blt d n = true)
    (h : WpR P n ops Q m (listed.setIfInBounds i true) (eset e d undef) l) : WpR P n ops Q (m + 1) listed e l :=
  WpR.take_ hi hsel hfree hr (fun a he => .inr ⟨by simp [Region.wanted, yielded, ht, he.at_ t _ hc, undef], rfl⟩) hd h
/-- append onto an empty row of one's own. -/
theorem Stp.append0P {P : Program} {n d : Nat} {x y : Operand} {t xt ty e' sz by_ : Nat} {zs : List Value} {pos : String} {after : Array Edge} {g : Option (Nat × Bool)} {e : Env} {l C : List HP} {Φ : Env → List HP → Prop}
    {v u : Value} {m : Nat} {news : List Value} [ht : EL P t e'] [hz : SZ P e' sz] [hby : BY P e' by_] [hzv : ZV P e' zs] [hni : NI P xt]
    (hx : evl e x = some v) (hy : evl e y = some u) (hp : Pk l (rowA e' sz v 0 []) C) (hs : Src P C sz u m news) (hnl : news.length = m * sz) (hone : oneCells news) (hbytes : m * by_ ≤ 140737488355328) (h63 : m ≤ 9223372036854775807) (hd : Nat.blt d n = true) (hzl : zs.length = sz)
    (hk : ∀ a' c', Φ (eset e d (.slice a' m c')) (rowA e' sz (.slice a' m c') m news :: C)) :
    Stp P n ⟨some d, .call { callee := .builtin .append, args := [x, y].toArray, argTypes := [t, xt].toArray }, ty, pos, after, g⟩ e l Φ :=
  Stp.gh (Gh.front hp) (Stp.append0 hx hy hs hnl hone hbytes h63 hd hzl hk)
/-- A triple out of another one; what the memory shows behind the call may be told as well. -/
theorem Trip.viaG {P : Program} {f : FuncId} {args : List Value} {l pre rest : List HP} {post post' : Value → List HP → Prop} (h : Trip P f args pre post) (hp : Tk l pre rest)
    (hk : ∀ v l', post v l' → ∀ F w, Holds (l' ++ rest) F w → ∃ l'', post' v l'' ∧ Holds l'' F w) : Trip P f args l post' := by
  unfold Trip
  intro F w hl
  obtain ⟨G, h1, h2⟩ := (hp.use hl).frame
  refine (h.use G w h1).mono ?_
  rintro e w' ⟨v, l', he, hpo, hl', hx⟩
  obtain ⟨l'', h3, h4⟩ := hk v l' hpo F w' (h2 l' w' hl')
  exact ⟨v, l'', he, h3, h4, hx⟩
end Go.Proofs.YtccgdnocldmjeaaGreatDoor
namespace Go.Proofs.YtccgdnocldmjeaaGreatDoor
open Go
set_option maxHeartbeats 4000000
set_option linter.unusedSimpArgs false
set_option linter.unusedVariables false
set_option maxRecDepth 20000
namespace Keysbool
theorem keys_ok (mb : Nat) : Trip Tryz.prog 47 [.map (some mb)] [] (fun r l => ∃ c, r = .func (.func 70) #[] [vp c 0].toArray ∧ l = [cel c 82 [.map (some mb)]]) := by
  refine Trip.of_body Tryz.func47 rfl Tryz.ntmps47 Tryz.results47 rfl ?_
  refine Wsr ?_
  (refine WpL.step (Stp.boxV rfl (VC.m _) rfl ?_); intro nb2)
  refine Ls (Rdo.assign rfl) (Lnt (Wsr (Ls (Rdo.makeFunc rfl) (Ls (Rdo.assign rfl) (Lnt (Wp.ret ?_))))))
  refine Rt (ResV.tmp rfl ResV.nil) ⟨_, ⟨rfl, rfl⟩⟩
/-- The iterator over a map's keys: in whatever order. -/
theorem keysIter (c mb : Nat) (tc : TypeId) (es : List (Int × Value)) : IterOK Tryz.prog 70 [vp c 0] (fun k : Int => [vi k]) [] [cel c tc [.map (some mb)], mapA i64 mb es] (fun xs => xs.Perm (akeys es)) := by
  intro Y J Jx hY l0 h0 _
  refine Trip.gh (l' := [cel c tc [.map (some mb)], mapA i64 mb es] ++ l0) (Gh.perm List.perm_append_comm) ?_
  refine Trip.get (Pk.next Pk.here) mapA_nodup ?_
  intro hnd
  refine Trip.of_body Tryz.func70 rfl Tryz.ntmps70 Tryz.results70 rfl ?_
  refine Wsr (Ls (Rdo.load rfl (Lds.one rfl)) ?_)
  refine WpL.step (Stp.rangeMap rfl (Pk.next Pk.here) rfl ?_)
  intro it
  refine Lnt (Wp.block ?_)
  refine Wp.loopE (fun k e h => ∃ (done : List Int) (l1 : List HP), done.length + k = es.length ∧ done.Nodup ∧ (∀ x ∈ done, x ∈ akeys es) ∧ J done l1 ∧ e = [(0, Y), (5, vp it 0)] ∧ h = mapItA i64 mb it es done :: cel c tc [.map (some mb)] :: l1) es.length
    (e0 := [(0, Y), (5, vp it 0)]) (l0 := mapItA i64 mb it es [] :: cel c tc [.map (some mb)] :: l0) (by repeat (first | exact trivial | refine ⟨rfl, ?_⟩)) (by repeat (first | exact trivial | refine ⟨rfl, ?_⟩)) Gh.rfl_ ⟨[], l0, by simp, List.nodup_nil, by simp, h0, rfl, rfl⟩ ?_
  rintro k e h ⟨done, l1, hk, hdn, hsub, hJ, rfl, rfl⟩
  refine Wsr ?_
  refine WpL.step (Stp.nextMap rfl Pk.here rfl ?_ ?_)
  · intro hall
    have hp : done.Perm (akeys es) := (List.perm_ext_iff_of_nodup hdn hnd).2 fun a => ⟨hsub a, hall a⟩
    refine Ls (Rdo.extract rfl rfl) (Lnt (Wp.seq ?_))
    refine Wp.condF rfl ?_
    refine Wp.exit ?_
    refine Thn.x ?_
    refine Thn.x ?_
    refine Blk.here ?_
    refine Ret.end_ ResV.nil (l' := l1 ++ [cel c tc [.map (some mb)], mapA i64 mb es]) ?_ (.inl ⟨done, l1, hp, hJ, rfl⟩)
    refine Gh.trans (Gh.it_done Pk.here) (Gh.perm ?_)
    exact (List.perm_append_comm (l₁ := [mapA i64 mb es, cel c tc [.map (some mb)]]) (l₂ := l1)).trans (List.Perm.append_left l1 (List.Perm.swap _ _ _))
  · intro x u hx hn
    refine Ls (Rdo.extract rfl rfl) (Lnt (Wp.seq ?_))
    refine Wp.condT rfl ?_
    refine Wp.skip (Thn.n (Wp.block (Wsr ?_)))
    refine Ls (Rdo.entryMap rfl (by assumption)) ?_
    refine Ls (Rdo.extract rfl rfl) (Ls (Rdo.assign rfl) (Lnt (Wsr (Ls (Rdo.move rfl) (Ls (Rdo.move rfl) ?_)))))
    have hxk : x ∈ akeys es := List.mem_map.2 ⟨_, hx, rfl⟩
    have hnd2 : (done ++ [x]).Nodup := by
      rw [List.nodup_append]
      exact ⟨hdn, by simp, fun a ha b hb e => hn (by simp only [List.mem_singleton] at hb; rw [← hb, ← e]; exact ha)⟩
    have hsub2 : ∀ y ∈ done ++ [x], y ∈ akeys es := by
      intro y hy
      rcases List.mem_append.1 hy with hy | hy
      · exact hsub y hy
      · simp only [List.mem_singleton] at hy; rw [hy]; exact hxk
    obtain ⟨rest, hrest⟩ : ∃ rest, (done ++ x :: rest).Perm (akeys es) := by
      obtain ⟨rest, hr⟩ := complete_ hnd2 hnd hsub2
      exact ⟨rest, by rw [show done ++ x :: rest = (done ++ [x]) ++ rest by simp]; exact hr⟩
    refine WpL.step (Stp.callV rfl rfl (hY done x rest l1 hrest hJ) (Tk.tail (A := [_, _])) rfl ?_)
    rintro r l2 (⟨rfl, hJ2⟩ | ⟨rfl, hJ2⟩)
    · refine WpL.gh (Gh.perm List.perm_append_comm) ?_
      refine Ll ?_
      refine Ls (Rdo.not rfl) (Lnt ?_)
      refine Wp.condF rfl ?_
      refine Wp.skip (Blk.n (Thn.n ?_))
      have hlt : done.length < es.length := by
        have := hrest.length_eq
        simp [akeys] at this
        omega
      refine ⟨k - 1, _, _, by omega, ⟨done ++ [x], l2, by simp; omega, hnd2, hsub2, hJ2, rfl, rfl⟩, (by repeat (first | exact trivial | refine ⟨rfl, ?_⟩)), Gh.rfl_⟩
    · refine WpL.gh (Gh.perm List.perm_append_comm) ?_
      refine Ll ?_
      refine Ls (Rdo.not rfl) (Lnt ?_)
      refine Wp.condT rfl ?_
      refine Wp.ret ?_
      refine Blk.r ?_
      refine Thn.r ?_
      refine Blk.r ?_
      refine Ret.now ResV.nil (l' := l2 ++ [cel c tc [.map (some mb)], mapA i64 mb es]) ?_ (.inr ⟨_, l2, hJ2, rfl⟩)
      refine Gh.trans (Gh.it_done Pk.here) (Gh.perm ?_)
      exact (List.perm_append_comm (l₁ := [mapA i64 mb es, cel c tc [.map (some mb)]]) (l₂ := l2)).trans (List.Perm.append_left l2 (List.Perm.swap _ _ _))
end Keysbool
end Go.Proofs.YtccgdnocldmjeaaGreatDoor
namespace Go.Proofs.YtccgdnocldmjeaaGreatDoor
open Go
set_option maxHeartbeats 4000000
set_option linter.unusedSimpArgs false
set_option linter.unusedVariables false
theorem J1.cases' {x y z : Option (Bool × Obj)} (h : J1 x y z) : (y = none ∧ z = x) ∨ (x = none ∧ z = y) ∨ (∃ o, x = some (false, o) ∧ y = some (false, o) ∧ z = some (false, o)) := by
  cases h
  · exact .inl ⟨rfl, rfl⟩
  · exact .inr (.inl ⟨rfl, rfl⟩)
  · exact .inr (.inr ⟨_, rfl, rfl, rfl⟩)
/-- All as if frozen. -/
def iced (r : Res) : Res := fun b => (r b).map fun x => (false, x.2)
/-- What is owned alone. -/
def mine (r : Res) : Res := fun b => match r b with | some (true, o) => some (true, o) | _ => none
/-- Resources that need no frozen memory. -/
def Own1 (p : HP) : Prop := ∀ r, p r → p (mine r)
def OwnL (l : List HP) : Prop := ∀ r, stars l r → stars l (mine r)
theorem mine_join {a c r : Res} (h : Join a c r) : Join (mine a) (mine c) (mine r) := fun b => by
  unfold mine
  rcases (h b).cases' with ⟨h1, h2⟩ | ⟨h1, h2⟩ | ⟨o, h1, h2, h3⟩
  · rw [h1, h2]; exact .l _
  · rw [h1, h2]; exact .r _
  · rw [h1, h2, h3]; exact .l _
theorem OwnL.nil : OwnL [] := fun _ _ => trivial
theorem OwnL.cons {p : HP} {l : List HP} (hp : Own1 p) (hl : OwnL l) : OwnL (p :: l) := fun r ⟨a, c, hj, ha, hc⟩ => ⟨mine a, mine c, mine_join hj, hp a ha, hl c hc⟩
theorem Own1.row {t : TypeId} {sz n : Nat} {v : Value} {xs : List Value} : Own1 (rowA t sz v n xs) := fun r hr => by
  unfold rowA at hr ⊢
  obtain ⟨hl, h⟩ := hr
  refine ⟨hl, ?_⟩
  rcases h with h | ⟨b, o, cap, cur, h1, h2, h3⟩
  · exact .inl h
  · exact .inr ⟨b, o, cap, cur, h1, by unfold mine; rw [h2], h3⟩
theorem Own1.blk {b : Nat} {o : Obj} : Own1 (blk b o) := fun r hr => by
  unfold Go.Proofs.YtccgdnocldmjeaaGreatDoor.blk at hr ⊢
  unfold mine
  rw [hr]
theorem Own1.cel {b : Nat} {t : TypeId} {cs : List Value} : Own1 (Go.Proofs.YtccgdnocldmjeaaGreatDoor.cel b t cs) := fun r hr => by
  unfold Go.Proofs.YtccgdnocldmjeaaGreatDoor.cel at hr ⊢
  exact Own1.blk r hr
/-- Owned memory is lent. -/
theorem Trip.lend {P : Program} {f : FuncId} {args : List Value} {own pre : List HP} {Φ : FH → Prop} {post : Value → List HP → Prop} (h : Trip P f args (fz Φ :: pre) post)
    (hΦ : ∀ r, stars own r → Φ (fun b => (r b).map (·.2))) (hown : ∀ v l, post v l → OwnL l) : Trip P f args (own ++ pre) (fun v l => ∃ l', post v l' ∧ l = own ++ l') := by
  unfold Trip
  intro F w hl
  unfold Holds at hl
  obtain ⟨r, t, hst, hj, hs⟩ := hl
  obtain ⟨ro, rp, hj2, ho, hp⟩ := stars_append.1 hst
  have mk : ∀ g : Res, ∃ F' : Res, (∀ b x, ro b = some x → F' b = some (false, x.2)) ∧ (∀ b, ro b = none → F' b = g b) := fun g =>
    ⟨fun b => match ro b with | some x => some (false, x.2) | none => g b, fun b x h => by simp only [h], fun b h => by simp only [h]⟩
  obtain ⟨F', hF1, hF0⟩ := mk F
  obtain ⟨r', hr1, hr0⟩ := mk rp
  obtain ⟨t', ht1, ht0⟩ := mk t
  have key : ∀ b x, ro b = some x → (rp b = none ∨ rp b = some (false, x.2)) ∧ (F b = none ∨ (x.1 = false ∧ F b = some (false, x.2))) ∧ t b = some x := by
    intro b x hx
    have h1 := hj2 b
    have h2 := hj b
    rw [hx] at h1
    rcases h1.cases' with ⟨g1, g2⟩ | ⟨g1, g2⟩ | ⟨o, g1, g2, g3⟩
    · refine ⟨.inl g1, ?_⟩
      rw [g2] at h2
      rcases h2.cases' with ⟨k1, k2⟩ | ⟨k1, k2⟩ | ⟨o, k1, k2, k3⟩
      · exact ⟨.inl k1, k2⟩
      · cases k1
      · cases k1; exact ⟨.inr ⟨rfl, k2⟩, k3⟩
    · cases g1
    · cases g1
      refine ⟨.inr g2, ?_⟩
      rw [g3] at h2
      rcases h2.cases' with ⟨k1, k2⟩ | ⟨k1, k2⟩ | ⟨o', k1, k2, k3⟩
      · exact ⟨.inl k1, k2⟩
      · cases k1
      · cases k1; exact ⟨.inr ⟨rfl, k2⟩, k3⟩
  have key0 : ∀ b, ro b = none → J1 (rp b) (F b) (t b) := by
    intro b hx
    have h1 := hj2 b
    have h2 := hj b
    rw [hx] at h1
    rcases h1.cases' with ⟨g1, g2⟩ | ⟨g1, g2⟩ | ⟨o, g1, g2, g3⟩
    · rw [g1]; rw [g2] at h2; exact h2
    · rw [g2] at h2; exact h2
    · cases g1
  have hsF : Sat w t' := by
    intro b x hx
    cases hb : ro b with
    | none =>
      rw [ht0 b hb] at hx
      exact hs b x hx
    | some y =>
      rw [ht1 b y hb] at hx
      have := hs b y (key b y hb).2.2
      cases hx
      exact this
  have hpre : Holds (fz Φ :: pre) F' w := by
    unfold Holds
    refine ⟨r', t', ⟨iced ro, rp, fun b => ?_, ?_, hp⟩, fun b => ?_, hsF⟩
    · cases hb : ro b with
      | none => rw [hr0 b hb, show iced ro b = none by unfold iced; rw [hb]; rfl]; exact .r _
      | some x =>
        rw [hr1 b x hb, show iced ro b = some (false, x.2) by unfold iced; rw [hb]; rfl]
        rcases (key b x hb).1 with h1 | h1
        · rw [h1]; exact .l _
        · rw [h1]; exact .f _
    · unfold fz
      have : frz (iced ro) = fun b => (ro b).map (·.2) := by
        funext b
        unfold frz iced
        cases ro b <;> rfl
      rw [this]
      exact hΦ ro ho
    · cases hb : ro b with
      | none => rw [hr0 b hb, hF0 b hb, ht0 b hb]; exact key0 b hb
      | some x => rw [hr1 b x hb, hF1 b x hb, ht1 b x hb]; exact .f _
  refine (h.use F' w hpre).mono ?_
  rintro e w' ⟨v, l', he, hpo, hl', hx⟩
  refine ⟨v, own ++ l', he, ⟨l', hpo, rfl⟩, ?_, hx⟩
  have hsat' := hl'.satF
  unfold Holds at hl' ⊢
  obtain ⟨r2, t2, hst2, hj2', hs2⟩ := hl'
  have hm : ∀ b x, ro b = some x → mine r2 b = none := by
    intro b x hb
    have h1 := hj2' b
    rw [hF1 b x hb] at h1
    unfold mine
    rcases h1.cases' with ⟨g1, g2⟩ | ⟨g1, g2⟩ | ⟨o, g1, g2, g3⟩
    · cases g1
    · rw [g1]
    · rw [g1]
  have hm2 : ∀ b y, mine r2 b = some y → r2 b = some y ∧ y.1 = true := by
    intro b y hb2
    unfold mine at hb2
    split at hb2
    · rename_i o ho2; cases hb2; exact ⟨ho2, rfl⟩
    · cases hb2
  have mk2 : ∀ g : Res, ∃ F' : Res, (∀ b x, ro b = some x → F' b = some x) ∧ (∀ b, ro b = none → F' b = g b) := fun g =>
    ⟨fun b => match ro b with | some x => some x | none => g b, fun b x h => by simp only [h], fun b h => by simp only [h]⟩
  have mk3 : ∃ g : Res, (∀ b y, mine r2 b = some y → g b = some y) ∧ (∀ b, mine r2 b = none → g b = F b) :=
    ⟨fun b => match mine r2 b with | some x => some x | none => F b, fun b x h => by simp only [h], fun b h => by simp only [h]⟩
  obtain ⟨g, hg1, hg0⟩ := mk3
  obtain ⟨r3, hr31, hr30⟩ := mk2 (mine r2)
  obtain ⟨t3, ht31, ht30⟩ := mk2 g
  refine ⟨r3, t3, stars_append.2 ⟨ro, mine r2, fun b => ?_, ho, hown v l' hpo r2 hst2⟩, fun b => ?_, ?_⟩
  · cases hb : ro b with
    | none => rw [hr30 b hb]; exact .r _
    | some x => rw [hr31 b x hb, hm b x hb]; exact .l _
  · cases hb : ro b with
    | none =>
      rw [hr30 b hb, ht30 b hb]
      cases hb2 : mine r2 b with
      | none => rw [hg0 b hb2]; exact .r _
      | some y =>
        obtain ⟨hy1, hy2⟩ := hm2 b y hb2
        have h1 := hj2' b
        rw [hF0 b hb, hy1] at h1
        obtain ⟨y1, y2⟩ := y
        simp only at hy2
        subst hy2
        rw [hg1 b _ hb2]
        rcases h1.cases' with ⟨g1, g2⟩ | ⟨g1, g2⟩ | ⟨o, g1, g2, g3⟩
        · rw [g1]; exact .l _
        · cases g1
        · cases g1
    | some x =>
      rw [hr31 b x hb, ht31 b x hb]
      rcases (key b x hb).2.1 with h1 | ⟨h0, h1⟩
      · rw [h1]; exact .l _
      · obtain ⟨x1, x2⟩ := x
        simp only at h0 h1
        subst h0
        rw [h1]; exact .f _
  · intro b y hy
    cases hb : ro b with
    | some x =>
      rw [ht31 b x hb] at hy
      cases hy
      exact hsat' b (false, _) (hF1 b _ hb)
    | none =>
      rw [ht30 b hb] at hy
      cases hb2 : mine r2 b with
      | none =>
        rw [hg0 b hb2] at hy
        exact hsat' b y (by rw [hF0 b hb]; exact hy)
      | some z =>
        rw [hg1 b z hb2] at hy
        cases hy
        exact hs2 b y (hj2'.left (hm2 b y hb2).1)
/-- Frozen memory is kept. -/
theorem Trip.keep {P : Program} {f : FuncId} {args : List Value} {A : List HP} {Φ : FH → Prop} {post : Value → List HP → Prop} (h : Trip P f args (A ++ [fz Φ]) post) : Trip P f args (A ++ [fz Φ]) (fun v l => ∃ l', post v l' ∧ l = l' ++ [fz Φ]) := by
  refine Trip.mono (Trip.gh ?_ (Trip.frame h [fz Φ])) (fun v l ⟨l', h1, h2⟩ => ⟨l', h2, h1⟩)
  refine Gh.trans (Gh.perm (List.perm_append_comm (l₁ := A) (l₂ := [fz Φ]))) (Gh.trans (Gh.fzAlso Pk.here fun g h => h) (Gh.perm ?_))
  refine (List.Perm.cons _ (List.perm_append_comm (l₁ := [fz Φ]) (l₂ := A))).trans ?_
  exact (List.perm_append_comm (l₁ := [fz Φ]) (l₂ := A ++ [fz Φ]))
/-- A row as if frozen. -/
theorem row_iced {t : TypeId} {sz n : Nat} {v : Value} {xs : List Value} {r : Res} (h : rowA t sz v n xs r) : RdRow (fun b => (r b).map (·.2)) sz v n xs := by
  unfold rowA at h
  obtain ⟨hl, h⟩ := h
  refine ⟨hl, ?_⟩
  rcases h with ⟨rfl, rfl⟩ | ⟨b, o, cap, cur, rfl, h2, h3, h4, h5⟩
  · exact ⟨none, 0, rfl, .inl rfl⟩
  · refine ⟨_, cap, rfl, .inr ⟨b, o, rfl, cur, t, (0, 0), by simp only [h2]; rfl, fun j u hj => ?_⟩⟩
    have hj' : j < n * sz := by have := (List.getElem?_eq_some_iff.1 hj).1; omega
    rw [← h5, List.getElem?_take, if_pos hj', List.getElem?_drop] at hj
    simpa using hj
end Go.Proofs.YtccgdnocldmjeaaGreatDoor
namespace Go.Proofs.YtccgdnocldmjeaaGreatDoor
open Go
set_option maxHeartbeats 4000000
set_option linter.unusedSimpArgs false
set_option linter.unusedVariables false
/-- Cells of a type, wherever they stand, read as data. -/
def Opn (P : Program) (t : TypeId) (sz : Nat) {α : Type} (R : FH → List Value → α → Prop) : Prop :=
  ∀ (H : Type) (enc : TypeId × Value → H) (w : World) (base : Nat) (spare : Nat → Bool) (held : Bool) (fuel : Nat) (cs : List Value) (x : DataW H × List MemPlace), DataW.trod enc P w base spare held fuel t cs = some x → (∀ q ∈ DataW.weights P t x.1, q ≤ reachBytes) → cs.length = sz ∧ ∃ a, R (fun b => w.heap[b]?) cs a
section
variable {P : Program} {t e : TypeId}
theorem Opn.map {sz : Nat} {α β : Type} {R : FH → List Value → α → Prop} {R' : FH → List Value → β → Prop} (f : α → β) (h : Opn P t sz R) (hf : ∀ g cs a, R g cs a → R' g cs (f a)) : Opn P t sz R' := fun H enc w base spare held fuel cs x hx hw => by
  obtain ⟨hl, a, ha⟩ := h H enc w base spare held fuel cs x hx hw
  exact ⟨hl, f a, hf _ _ _ ha⟩
theorem Opn.int {k : IntKind} (hu : P.underlying t = some (.int k)) : Opn P t 1 (fun _ cs (n : Int) => cs = [.int k n] ∧ (Lit.int k n).wf = true) := fun H enc w base spare held fuel cs x hx _ => by
  obtain ⟨n, rfl, _, hw⟩ := DataW.trod_int hu hx
  exact ⟨rfl, n, rfl, hw⟩
theorem Opn.bool (hu : P.underlying t = some .bool) : Opn P t 1 (fun _ cs (b : Bool) => cs = [.bool b]) := fun H enc w base spare held fuel cs x hx _ => by
  obtain ⟨b, rfl, _⟩ := DataW.trod_bool hu hx
  exact ⟨rfl, b, rfl⟩
theorem Opn.string (hu : P.underlying t = some .string) : Opn P t 1 (fun _ cs (s : List UInt8) => cs = [vs s] ∧ s.length ≤ reachBytes) := fun H enc w base spare held fuel cs x hx hwt => by
  obtain ⟨s, rfl, rfl, hw⟩ := DataW.trod_string hu hx
  obtain ⟨l, rfl⟩ := str_bytes s
  exact ⟨rfl, l, rfl, hwt _ (by simp [DataW.weights])⟩
theorem cells_of {w : World} {base : Nat} {a : Addr} {n : Nat} {cs : List Value} (h : w.cells? base a n = some cs) : cs.length = n ∧ ∀ j v, cs[j]? = some v → w.cell? (a.add j) = some v := by
  unfold World.cells? at h
  split at h
  · have key : ∀ (l : List Nat) (r : List Value), l.mapM (fun i => w.cell? (a.add i)) = some r → r.length = l.length ∧ ∀ (j : Nat) v, r[j]? = some v → ∃ i, l[j]? = some i ∧ w.cell? (a.add i) = some v := by
      intro l
      induction l with
      | nil =>
        intro r hr
        simp at hr
        subst hr
        exact ⟨rfl, by simp⟩
      | cons i l ih =>
        intro r hr
        simp only [List.mapM_cons, Option.pure_def, Option.bind_eq_bind, Option.bind_eq_some_iff, Option.some.injEq] at hr
        obtain ⟨v, hv, r', hr', rfl⟩ := hr
        obtain ⟨h1, h2⟩ := ih r' hr'
        refine ⟨by simp [h1], fun j u hj => ?_⟩
        cases j with
        | zero =>
          simp at hj
          subst hj
          exact ⟨i, rfl, hv⟩
        | succ j =>
          obtain ⟨i', h3, h4⟩ := h2 j u (by simpa using hj)
          exact ⟨i', by simpa using h3, h4⟩
    obtain ⟨h1, h2⟩ := key _ _ h
    refine ⟨by simpa using h1, fun j v hj => ?_⟩
    obtain ⟨i, h3, h4⟩ := h2 j v hj
    have hj2 := (List.getElem?_eq_some_iff.1 h3).1
    rw [List.getElem?_eq_getElem hj2] at h3
    simp at h3
    rw [h3]
    exact h4
  · cases h
theorem weightsAll_mem {H : Type} {P : Program} {e : TypeId} {d : DataW H} : ∀ {l : List (DataW H)}, d ∈ l → ∀ {q : Nat}, q ∈ DataW.weights P e d → q ∈ DataW.weightsAll P e l
  | [], h, _, _ => by cases h
  | x :: l, h, q, hq => by
    simp only [DataW.weightsAll, List.mem_append]
    rcases List.mem_cons.1 h with rfl | h
    · exact .inl hq
    · exact .inr (weightsAll_mem h hq)
theorem weightsEach_mem {H : Type} {P : Program} : ∀ {ts : List TypeId} {ds : List (DataW H)} {i : Nat} {t : TypeId} {d : DataW H}, ts[i]? = some t → ds[i]? = some d → ∀ {q : Nat}, q ∈ DataW.weights P t d → q ∈ DataW.weightsEach P ts ds
  | [], _, i, _, _, h, _, _, _ => by simp at h
  | _ :: _, [], i, _, _, _, h, _, _ => by simp at h
  | t :: ts, d :: ds, 0, _, _, h, h', q, hq => by
    simp at h h'
    subst h h'
    simp only [DataW.weightsEach, List.mem_append]
    exact .inl hq
  | t :: ts, d :: ds, i + 1, _, _, h, h', q, hq => by
    simp only [DataW.weightsEach, List.mem_append]
    exact .inr (weightsEach_mem (i := i) (by simpa using h) (by simpa using h') hq)
theorem Opn.slice {sz : Nat} {α : Type} {R : FH → List Value → α → Prop} (hu : P.underlying t = some (.slice e)) (hc : P.cellsOf e = sz) (hp : 0 < sz) {by_ : Nat} (hby : P.bytesOf e = by_) (he : Opn P e sz R) : Opn P t 1 (fun g cs (els : List α) => ∃ v, cs = [v] ∧ RdSl R sz g v els ∧ els.length * by_ ≤ reachBytes) := fun H enc w base spare held fuel cs x hx hwt => by
  rcases DataW.trod_slice hu hx with ⟨rfl, _⟩ | ⟨a, len, cap, elems, rest, n, _, rfl, rfl, hb, hl, hm, hlen, hel, _, _⟩
  · exact ⟨rfl, [], _, rfl, RdSl.nil none 0, by simp⟩
  · refine ⟨rfl, ?_⟩
    rw [hc] at hel
    simp only [DataW.weights, hu, hby, List.length_map, List.mem_cons, List.mem_append] at hwt
    have hlw : len * by_ ≤ reachBytes := by
      have h1 := hwt _ (.inl rfl)
      rw [hlen, Nat.add_mul] at h1
      omega
    have hew : ∀ (i : Nat) (y : DataW H × List MemPlace), elems[i]? = some y → ∀ q ∈ DataW.weights P e y.1, q ≤ reachBytes := fun i y hy q hq => hwt q (.inr (.inl (weightsAll_mem (d := y.1) (List.mem_map.2 ⟨y, List.mem_of_getElem? hy, rfl⟩) hq)))
    have key : ∀ m, m ≤ len → ∃ (css : List (List Value)) (els : List α), els.length = m ∧ (∀ c ∈ css, c.length = sz) ∧ All2 (R fun b => w.heap[b]?) css els ∧ ∀ j v, css.flatten[j]? = some v → w.cell? (a.add j) = some v := by
      intro m
      induction m with
      | zero => exact fun _ => ⟨[], [], rfl, by simp, .nil, by simp⟩
      | succ m ih =>
        intro hml
        obtain ⟨css, els, h1, h2, h3, h4⟩ := ih (by omega)
        have h5 := hel m (by omega)
        rw [List.getElem?_eq_getElem (by omega), Option.bind_eq_some_iff] at h5
        obtain ⟨c, h6, h7⟩ := h5
        obtain ⟨h8, y, h9⟩ := he H enc w base spare held n c _ h7 (hew m _ (List.getElem?_eq_getElem (by omega)))
        obtain ⟨h10, h11⟩ := cells_of h6
        have hfl := flatten_length h2
        rw [h3.len, h1] at hfl
        refine ⟨css ++ [c], els ++ [y], by simp [h1], ?_, h3.append (.cons h9 .nil), ?_⟩
        · intro d hd
          rcases List.mem_append.1 hd with hd | hd
          · exact h2 d hd
          · rw [List.mem_singleton.1 hd]
            exact h8
        · intro j v hj
          rw [List.flatten_append, List.flatten_cons, List.flatten_nil, List.append_nil] at hj
          by_cases hjl : j < css.flatten.length
          · rw [List.getElem?_append_left hjl] at hj
            exact h4 j v hj
          · rw [List.getElem?_append_right (by omega)] at hj
            have h12 := h11 _ v hj
            rw [Addr.add_add] at h12
            rwa [show m * sz + (j - css.flatten.length) = j by omega] at h12
    obtain ⟨css, els, h1, h2, h3, h4⟩ := key len (Nat.le_refl _)
    have hfl := flatten_length h2
    rw [h3.len, h1] at hfl
    refine ⟨els, _, rfl, ⟨css, ⟨by rw [hfl, h1], some a, cap, by rw [h1], ?_⟩, h2, h3⟩, by rw [h1]; exact hlw⟩
    rcases Nat.eq_zero_or_pos len with h0 | h0
    · exact .inl (by omega)
    right
    have hpos : 0 < css.flatten.length := by rw [hfl]; exact Nat.mul_pos h0 hp
    obtain ⟨arr, ty, fr, b, o, rfl, hbk⟩ : ∃ arr ty fr b o, a = ⟨b, o, none⟩ ∧ w.heap[b]? = some (.cells arr ty fr) := by
      have hc0 := h4 0 _ (List.getElem?_eq_getElem hpos)
      unfold World.cell? at hc0
      split at hc0
      · rename_i arr ty fr hbk
        split at hc0
        · cases hc0
        · rename_i hs
          obtain ⟨b, o, sp⟩ := a
          have hsp : sp = none := by
            cases sp with
            | none => rfl
            | some x => simp [Addr.add] at hs
          subst hsp
          exact ⟨arr, ty, fr, b, o, rfl, by simpa [Addr.add] using hbk⟩
      · cases hc0
    refine ⟨b, o, rfl, arr, ty, fr, hbk, fun j v hj => ?_⟩
    have h5 := h4 j v hj
    rw [addr_add] at h5
    unfold World.cell? at h5
    simp only at h5
    rw [hbk] at h5
    simpa using h5
/-- The fields of a struct from the k-th on, whose cells begin at o. -/
def OpnF (P : Program) (t : TypeId) (k o : Nat) {α : Type} (R : FH → List Value → α → Prop) : Prop :=
  ∀ (fs : Array Field) (H : Type) (enc : TypeId × Value → H) (w : World) (base : Nat) (spare : Nat → Bool) (held : Bool) (fuel : Nat) (cs : List Value) (xs : List (DataW H × List MemPlace)), P.underlying t = some (.struct fs) → cs.length = P.cellsOf t → xs.length = fs.size →
    (∀ (i : Nat) (f : Field), fs[i]? = some f → DataW.trod enc P w base spare held fuel f.type ((cs.drop f.offset).take (P.cellsOf f.type)) = xs[i]?) → (∀ (i : Nat) (f : Field) y, fs[i]? = some f → xs[i]? = some y → ∀ q ∈ DataW.weights P f.type y.1, q ≤ reachBytes) → ∃ a, R (fun b => w.heap[b]?) (cs.drop o) a
theorem OpnF.nil {k o : Nat} (h : P.cellsOf t = o) : OpnF P t k o (fun _ cs (_ : Unit) => cs = []) := fun fs H enc w base spare held fuel cs xs _ hl _ _ _ => ⟨(), List.drop_eq_nil_iff.2 (by omega)⟩
theorem OpnF.cons {k o n T : Nat} {α β : Type} {R : FH → List Value → α → Prop} {R' : FH → List Value → β → Prop} [hf : FO P t k o n] [ht : FT P t k T] (h : Opn P T n R) (h' : OpnF P t (k + 1) (o + n) R') :
    OpnF P t k o (fun g cs (x : α × β) => ∃ c d, cs = c ++ d ∧ c.length = n ∧ R g c x.1 ∧ R' g d x.2) := fun fs H enc w base spare held fuel cs xs hu hl hx hall hwt => by
  obtain ⟨fs', f, hu', hf', ho, hn⟩ := hf.field
  obtain rfl : fs' = fs := by rw [hu] at hu'; cases hu'; rfl
  have hT := ht.field hu hf'
  have h1 := hall k f hf'
  have hk : k < xs.length := by rw [hx]; exact (Array.getElem?_eq_some_iff.1 hf').1
  rw [List.getElem?_eq_getElem hk, ho, hn, hT] at h1
  obtain ⟨h2, a, h3⟩ := h H enc w base spare held fuel _ _ h1 (by have := hwt k f _ hf' (List.getElem?_eq_getElem hk); rwa [hT] at this)
  obtain ⟨b, h4⟩ := h' fs' H enc w base spare held fuel cs xs hu hl hx hall hwt
  exact ⟨(a, b), _, _, by rw [← List.drop_drop, List.take_append_drop], h2, h3, h4⟩
theorem Opn.struct {sz : Nat} {α : Type} {R : FH → List Value → α → Prop} [hs : FS P t] (hc : P.cellsOf t = sz) (h : OpnF P t 0 0 R) : Opn P t sz R := fun H enc w base spare held fuel cs x hx hwt => by
  obtain ⟨fs, hu⟩ : ∃ fs, P.underlying t = some (.struct fs) := by
    have h1 := hs.pf
    unfold fldsThere at h1
    split at h1
    · rename_i fs hu
      exact ⟨fs, hu⟩
    · cases h1
  obtain ⟨xs, n, _, rfl, hl, hxl, hall⟩ := DataW.trod_struct hu hx
  simp only [DataW.weights, hu] at hwt
  refine ⟨by rw [hl, hc], h fs H enc w base spare held n cs xs hu hl hxl hall fun i f y hf hy q hq => hwt q (weightsEach_mem (i := i) (by simp [hf]) (by simp [hy]) hq)⟩
/-- Bytes. -/
theorem Opn.bytes (hu : P.underlying t = some (.slice e)) (he : P.underlying e = some (.int .u8)) (hc : P.cellsOf e = 1) (hby : P.bytesOf e = 1) : Opn P t 1 (fun g cs (bs : List UInt8) => ∃ v, cs = [v] ∧ RdBytes g v bs ∧ bs.length ≤ reachBytes) := by
  refine Opn.map (fun els : List Int => els.map fun z => UInt8.ofNat z.toNat) (Opn.slice hu hc (by omega) hby (Opn.int he)) ?_
  rintro g cs els ⟨v, rfl, ⟨css, h1, h2, h3⟩, h4⟩
  refine ⟨v, rfl, ?_, by simpa using h4⟩
  have e1 : css.flatten = bytesC (els.map fun z => UInt8.ofNat z.toNat) := by
    clear h1 h2 h4
    induction h3 with
    | nil => rfl
    | cons h _ ih =>
      obtain ⟨rfl, hw⟩ := h
      have hb := bounds_u8 hw
      rw [List.flatten_cons, ih]
      simp only [bytesC, List.map_cons, List.cons_append, List.nil_append, u8c, List.cons.injEq, Value.int.injEq, true_and, and_true, UInt8.toNat_ofNat']
      omega
  rw [e1] at h1
  unfold RdBytes
  rwa [List.length_map]
end
/-- The statement's way, with how much each part of what came in may take. -/
theorem returnsInHanded_w {H : Type} {enc : TypeId × Value → H} {a : Assume} {C : Checked} {os : Os} {f : FuncId} {fn : Func} {s : ChangeSpec} {conds : List PathCond} {apart fresh handsOn again : Bool}
    (own : ownKnob C.prog.godebug = none) (started : os.Started) (noInit : C.prog.inits.idxOf? f = none) (hfn : C.prog.funcs[f]? = some fn)
    (witness : ∃ (w : World) (tape : Tape) (i : Input), w.os = os ∧ (w.forCall tape i).Shaped C.prog ∧ i.vars = [] ∧ Input.okWide C.prog (w.forCall tape i) .any w.heap.size f i ∧
      s.pre6 enc C.prog fn conds apart (w.forCall tape i).memory i.args ∧ a.holds C.prog (lone (Frame.enter C.prog f i.args .normal) [] (w.forCall tape i)))
    (contract : ∀ (W : World) (base : Nat) (args : Array Value) (ds gs : List (DataW H)) (before : List MemPlace),
      (∀ (j : Nat) t v, fn.params[j]? = some t → args[j]? = some v → Value.okWide C.prog W .any base t v) →
      DataW.Whole enc C.prog fn.params.toList s.vars apart W args.toList ds gs before →
      conds.all (PathCond.test C.prog ⟨fn.params.toList, ds, s.plain.varTypes C.prog, gs⟩) = true →
      (DataW.weightsEach C.prog (fn.params.toList ++ s.plain.varTypes C.prog) (ds ++ gs)).all (· ≤ reachBytes) = true →
      a.holds C.prog (lone (Frame.enter C.prog f args .normal) [] W) →
      Calls C.prog f args W fun e W' => ∃ v, e = .returned v ∧ s.post enc C.prog fn apart fresh handsOn again W args v W') :
    ReturnsInHanded a C os f .any (s.pre6 enc C.prog fn conds apart) (s.post enc C.prog fn apart fresh handsOn again) := by
  refine returnsInHanded_of_calls own started noInit witness ?_
  intro w tape i _ _ _ hok hpre hholds
  obtain ⟨_, _, _, fn', hfn', _, _, _, _, hval⟩ := hok
  have e : fn' = fn := Option.some.inj (hfn'.symm.trans hfn)
  subst e
  obtain ⟨⟨ds, gs, before, hw, hc⟩, hz⟩ := hpre
  have hw' := DataW.Whole.of_heap (w' := w.forCall tape i) (by rfl) hw
  refine (contract (w.forCall tape i) w.heap.size i.args ds gs before hval hw' hc (hz.weights hw) hholds).mono fun e W' ⟨v, he, hp⟩ => ?_
  subst he
  exact ChangeSpec.post_blind hp
/-- Is it an int64? -/
def In64 (n : Int) : Prop := -9223372036854775808 ≤ n ∧ n ≤ 9223372036854775807
theorem in64_of {n : Int} (h : (Lit.int .i64 n).wf = true) : In64 n := bounds_i64 h
end Go.Proofs.YtccgdnocldmjeaaGreatDoor
namespace Go.Proofs.YtccgdnocldmjeaaGreatDoor
open Go
set_option maxHeartbeats 4000000
set_option linter.unusedSimpArgs false
set_option linter.unusedVariables false
abbrev RdInts (g : FH) (v : Value) (ps : List Int) : Prop := RdRow g 1 v ps.length (ps.map vi)
section
variable {P : Program} {t e : TypeId}
theorem shape_rdsl {α : Type} {R : FH → List Value → α → Prop} {sz : Nat} {v : Value} {els : List α} (r : Res) (h : fz (fun g => RdSl R sz g v els) r) : ∃ a c, v = .slice a els.length c := by unfold fz at h; exact RdSl.shape h
/-- Where a row stands that has a cell. -/
theorem row_some {sz n c : Nat} {a : Option Addr} {xs : List Value} (h0 : 0 < n) (r : Res) (h : fz (fun g => RdRow g sz (.slice a n c) n xs) r) : ∃ b o, a = some ⟨b, o, none⟩ := by
  unfold fz at h
  obtain ⟨_, a', c', h2, h3⟩ := h
  simp only [Value.slice.injEq, true_and] at h2
  obtain ⟨rfl, rfl⟩ := h2
  rcases h3 with h3 | ⟨b, o, h3, _⟩
  · omega
  · exact ⟨b, o, h3⟩
theorem fzrow_sees {l : List HP} {F : Res} {w : World} {sz n b o c : Nat} {xs : List Value} (h : Holds (fz (fun g => RdRow g sz (.slice (some ⟨b, o, none⟩) n c) n xs) :: l) F w) (j : Nat) (v : Value) (hj : xs[j]? = some v) : w.cell? ⟨b, o + j, none⟩ = some v := by
  obtain ⟨g, ⟨hl, a', c', h2, h3⟩, hw⟩ := h.fz_sees
  simp only [Value.slice.injEq, true_and] at h2
  obtain ⟨rfl, rfl⟩ := h2
  rcases h3 with h3 | ⟨b', o', h3, arr, t, fr, hb, hc⟩
  · have := (List.getElem?_eq_some_iff.1 hj).1
    rw [hl, h3] at this
    simp at this
  · simp only [Option.some.injEq, Addr.mk.injEq, and_true] at h3
    obtain ⟨rfl, rfl⟩ := h3
    unfold World.cell?
    simp [hw _ _ hb, hc j v hj]
theorem Lds.fz1 {l : List HP} {ty : TypeId} {n b o c i : Nat} {xs : List Value} {v : Value} [ha : AG P ty false] (hx : xs[i]? = some v) :
    Lds P (fz (fun g => RdRow g 1 (.slice (some ⟨b, o, none⟩) n c) n xs) :: l) ⟨b, o + i * 1, none⟩ ty v := by
  unfold Lds
  intro F w hl
  have := fzrow_sees hl i v hx
  simp [Instr.loadAt, Instr.sureAddr, loadVar, ha.run, this]
theorem Lds.fzN {l : List HP} {ty : TypeId} {sz n b o c i : Nat} {xs pre cs post : List Value} [ha : AG P ty true] [hz : SZ P ty sz] (hx : xs = pre ++ (cs ++ post)) (hp : pre.length = i * sz) (hc : cs.length = sz) :
    Lds P (fz (fun g => RdRow g sz (.slice (some ⟨b, o, none⟩) n c) n xs) :: l) ⟨b, o + i * sz, none⟩ ty (.agg cs.toArray) := by
  unfold Lds
  intro F w hl
  subst hx
  have := run_loadCells_list (P := P) w ⟨b, o + i * sz, none⟩ cs (fun j v hj => by
    rw [addr_add, Nat.add_assoc]
    refine fzrow_sees hl _ v ?_
    rw [List.getElem?_append_right (by omega), hp, Nat.add_sub_cancel_left, List.getElem?_append_left (List.getElem?_eq_some_iff.1 hj).1]
    exact hj)
  rw [hc] at this
  simp [Instr.loadAt, Instr.sureAddr, loadVar, ha.run, hz.run, this]
theorem bytesC_at {bs : List UInt8} {i : Nat} {b : UInt8} (h : bs[i]? = some b) : (bytesC bs)[i]? = some (.int .u8 b.toNat) := by simp [bytesC, u8c, h]
theorem intsC_at {ps : List Int} {i : Nat} {n : Int} (h : ps[i]? = some n) : (ps.map vi)[i]? = some (vi n) := by simp [h]
theorem boolsC_at {ps : List Bool} {i : Nat} {n : Bool} (h : ps[i]? = some n) : (ps.map vb)[i]? = some (vb n) := by simp [h]
end
end Go.Proofs.YtccgdnocldmjeaaGreatDoor
namespace Go.Proofs.YtccgdnocldmjeaaGreatDoor
open Go
set_option maxHeartbeats 4000000
set_option linter.unusedSimpArgs false
set_option linter.unusedVariables false
set_option maxRecDepth 20000
section
variable {P : Program} {e : Env} {C : List HP} {ty : TypeId}
theorem Rdo.shr {x y : Operand} {xt yt : TypeId} {k yk : IntKind} {p s : Int} (hx : evl e x = some (.int k p)) (hy : evl e y = some (.int yk s)) (hs : 0 ≤ s) : Rdo P e C (.binOp .shr xt x y yt) ty (.int k (p / 2 ^ Min.min s.toNat k.bits)) := by
  unfold Rdo
  intro G w a n dst pos after g hl he
  simp [execOp, he.eval hx, he.eval hy, eqGuard_shr, binOp, shift_shr_any _ _ _ _ hs]
theorem Rdo.shrE {x y : Operand} {xt yt : TypeId} {k yk : IntKind} {p s r : Int} (hx : evl e x = some (.int k p)) (hy : evl e y = some (.int yk s)) (hs : 0 ≤ s) (hr : p / 2 ^ Min.min s.toNat k.bits = r) : Rdo P e C (.binOp .shr xt x y yt) ty (.int k r) := hr ▸ Rdo.shr hx hy hs
theorem Rdo.shl {x y : Operand} {xt yt : TypeId} {k yk : IntKind} {p s : Int} (hx : evl e x = some (.int k p)) (hy : evl e y = some (.int yk s)) (hs : 0 ≤ s) : Rdo P e C (.binOp .shl xt x y yt) ty (.int k (k.wrap (p * 2 ^ Min.min s.toNat k.bits))) := by
  unfold Rdo
  intro G w a n dst pos after g hl he
  simp [execOp, he.eval hx, he.eval hy, eqGuard_shl, binOp, shift_shl_any _ _ _ _ hs]
end
/-- A number's bytes. -/
def numB (n : Nat) : List UInt8 := if n < 128 then [UInt8.ofNat n] else UInt8.ofNat (n % 128 + 128) :: numB (n / 128)
theorem numB_lt {n : Nat} (h : n < 128) : numB n = [UInt8.ofNat n] := by rw [numB, if_pos h]
theorem numB_ge {n : Nat} (h : ¬ n < 128) : numB n = UInt8.ofNat (n % 128 + 128) :: numB (n / 128) := by rw [numB, if_neg h]
theorem numB_len (k n : Nat) (h : n < 128 ^ (k + 1)) : (numB n).length ≤ k + 1 := by
  induction k generalizing n with
  | zero => rw [numB_lt (by simpa using h)]; simp
  | succ k ih =>
    by_cases h2 : n < 128
    · rw [numB_lt h2]; simp
    · rw [numB_ge h2]
      have := ih (n / 128) (by rw [Nat.div_lt_iff_lt_mul (by omega)]; rw [Nat.pow_succ] at h; omega)
      simp; omega
theorem numB_pos (n : Nat) : 1 ≤ (numB n).length := by
  by_cases h : n < 128
  · rw [numB_lt h]; simp
  · rw [numB_ge h]; simp
/-- The number that is laid for a number. -/
def clampN (n : Int) : Nat := if n < 0 then 0 else if 4611686018427387904 < n then 4611686018427387904 else n.toNat
def numsB (ns : List Int) : List UInt8 := (ns.map fun n => numB (clampN n)).flatten
theorem clampN_lt (n : Int) : clampN n < 128 ^ 9 := by unfold clampN; split <;> (try split) <;> omega
theorem numB_clamp_len (n : Int) : (numB (clampN n)).length ≤ 9 := numB_len 8 _ (clampN_lt n)
theorem numsB_len (ns : List Int) : (numsB ns).length ≤ 9 * ns.length := by
  induction ns with
  | nil => simp [numsB]
  | cons n ns ih =>
    have := numB_clamp_len n
    simp only [numsB, List.map_cons, List.flatten_cons, List.length_append, List.length_cons] at ih ⊢
    omega
theorem or128 (m : Nat) (h : m < 256) : bits .or .u8 (m : Int) 128 = ((m % 128 + 128 : Nat) : Int) := by
  have : ((List.range 256).all fun m => bits .or .u8 (m : Int) 128 == ((m % 128 + 128 : Nat) : Int)) = true := by kernel_rfl
  have h2 := List.all_eq_true.1 this m (List.mem_range.2 h)
  simpa using h2
theorem wrap8 (n : Nat) : IntKind.u8.wrap (n : Int) = ((n % 256 : Nat) : Int) := by
  simp [IntKind.wrap, IntKind.bits, IntKind.signed]
theorem lay_hi (n : Nat) : bits .or .u8 (IntKind.u8.wrap (n : Int)) 128 = ((UInt8.ofNat (n % 128 + 128)).toNat : Int) := by
  rw [wrap8, or128 _ (by omega)]
  have : (UInt8.ofNat (n % 128 + 128)).toNat = n % 128 + 128 := by
    rw [UInt8.toNat_ofNat']
    omega
  rw [this]
  omega
theorem lay_lo (n : Nat) (h : n < 128) : IntKind.u8.wrap (n : Int) = ((UInt8.ofNat n).toNat : Int) := by
  rw [wrap8]
  have : (UInt8.ofNat n).toNat = n := by
    rw [UInt8.toNat_ofNat']
    omega
  rw [this]
  omega
theorem shr7 (n : Nat) : (n : Int) / 2 ^ min (7 : Int).toNat IntKind.u64.bits = ((n / 128 : Nat) : Int) := by
  have : min (7 : Int).toNat IntKind.u64.bits = 7 := by rfl
  rw [this]
  omega
/-- A Writer that has laid bytes. -/
def wrA (w : Nat) (bs : List UInt8) : HP := exH fun x : Option Addr × Nat => starH [cel w 76 [.slice x.1 bs.length x.2], rowA 5 1 (.slice x.1 bs.length x.2) bs.length (bytesC bs)]
theorem wrA_open {w : Nat} {bs : List UInt8} {l : List HP} : GhE (wrA w bs :: l) (fun _ : Option Addr × Nat => True) (fun x => cel w 76 [.slice x.1 bs.length x.2] :: rowA 5 1 (.slice x.1 bs.length x.2) bs.length (bytesC bs) :: l) := by
  unfold wrA
  exact GhE.open_ Pk.here
theorem wrA_shut {w : Nat} {bs : List UInt8} {a : Option Addr} {c : Nat} {l : List HP} : Gh (cel w 76 [.slice a bs.length c] :: rowA 5 1 (.slice a bs.length c) bs.length (bytesC bs) :: l) (wrA w bs :: l) := by
  unfold wrA
  exact Gh.shut (f := fun x : Option Addr × Nat => [cel w 76 [.slice x.1 bs.length x.2], rowA 5 1 (.slice x.1 bs.length x.2) bs.length (bytesC bs)]) (a, c) (Tk.cons Pk.here (Tk.cons Pk.here (Tk.mk fun F w h => h)))
theorem clamp_wrap (x : Int) : IntKind.u64.wrap (if (if 4611686018427387904 < x then 4611686018427387904 else x) > 0 then if 4611686018427387904 < x then 4611686018427387904 else x else 0) = (clampN x : Int) := by
  have hw : ∀ y : Int, 0 ≤ y → y < 18446744073709551616 → IntKind.u64.wrap y = y := by
    intro y h1 h2
    simp [IntKind.wrap, IntKind.bits, IntKind.signed]
    omega
  unfold clampN
  by_cases h1 : x < 0
  · rw [if_neg (show ¬ 4611686018427387904 < x by omega), if_neg (show ¬ x > 0 by omega), if_pos h1, hw _ (by omega) (by omega)]; rfl
  · rw [if_neg h1]
    by_cases h2 : 4611686018427387904 < x
    · rw [if_pos h2, if_pos h2, if_pos (by omega), hw _ (by omega) (by omega)]; rfl
    · rw [if_neg h2, if_neg h2]
      by_cases h3 : x > 0
      · rw [if_pos h3, hw _ (by omega) (by omega)]; omega
      · rw [if_neg h3, hw _ (by omega) (by omega)]; omega
abbrev octL (w nb : Nat) (a : Option Addr) (c : Nat) (bs : List UInt8) (ns : List Int) : List HP := [cel w 76 [.slice a bs.length c], rowA 5 1 (.slice a bs.length c) bs.length (bytesC bs), cel nb 3 (ns.map vi)]
abbrev octE (w nb i : Nat) (ns : List Int) : Env := [(0, vp w 0), (9, .slice (some ⟨nb, 0, none⟩) ns.length ns.length), (10, vi ns.length), (11, vi i)]
theorem bytesC_snoc (bs : List UInt8) (b : UInt8) : bytesC (bs ++ [b]) = bytesC bs ++ [.int .u8 b.toNat] := by simp [bytesC, u8c]
theorem nums_ok (w nb : Nat) (bs : List UInt8) (ns : List Int) (hl : bs.length + 9 * ns.length ≤ 1099511627776) :
    Trip Tryz.prog 26 [vp w 0, .slice (some ⟨nb, 0, none⟩) ns.length ns.length] [wrA w bs, cel nb 3 (ns.map vi)]
      (fun r l => r = .tuple #[] ∧ l = [wrA w (bs ++ numsB ns)]) := by
  refine Trip.ghE wrA_open ?_
  rintro ⟨a0, c0⟩ _
  refine Trip.of_body Tryz.func26 rfl Tryz.ntmps26 Tryz.results26 rfl ?_
  refine Wp.seq (Wsr (Ls (Rdo.move rfl) (Ls (Rdo.eqnil rfl rfl) (Lnt ?_))))
  refine Wp.condF rfl ?_
  refine Wp.skip (Thn.n (Wsr (Ls (Rdo.move rfl) (Ls (Rdo.lenSlice rfl) (Ls (Rdo.move rfl) (Lnt (Wp.block ?_)))))))
  refine Wp.loopE (fun k e h => ∃ (i : Nat) (a : Option Addr) (c : Nat), i + k = ns.length ∧ e = octE w nb i ns ∧ h = octL w nb a c (bs ++ numsB (ns.take i)) ns) ns.length
    (e0 := octE w nb 0 ns) (l0 := octL w nb a0 c0 (bs ++ numsB (ns.take 0)) ns) (by repeat (first | exact trivial | refine ⟨rfl, ?_⟩)) (by repeat (first | exact trivial | refine ⟨rfl, ?_⟩)) ?_ ⟨0, a0, c0, by omega, rfl, rfl⟩ ?_
  · simp only [List.take_zero, numsB, List.map_nil, List.flatten_nil, List.append_nil]
    exact Gh.rfl_
  rintro k e h ⟨i, a, c, hik, rfl, rfl⟩
  by_cases hi : i < ns.length
  · have h1 : ns[i]? = some ns[i] := List.getElem?_eq_getElem hi
    have h2 : (ns.map vi)[0 + i * 1]? = some (vi ns[i]) := by rw [show 0 + i * 1 = i by omega, List.getElem?_map, h1]; rfl
    refine Wsr (Ls (Rdo.lti rfl rfl) (Lnt (Wp.seq (cK rfl (Wp.skip (Thn.n (Wp.seq (Wp.block (Wsr ?_)))))))))
    refine Ls (Rdo.indexSlice rfl rfl (by omega)) ?_
    refine Ls (Rdo.load rfl (Lds.next (Lds.next (Lds.one (by assumption))))) ?_
    refine Ls (Rdo.assign rfl) (Lnt (Wsr (Ls (Rdo.move rfl) (Ls (Rdo.min rfl rfl) (Ls (Rdo.max rfl rfl) (Ls (Rdo.convInt rfl) (Ls (Rdo.assign rfl) (Lnt (Wp.seq (Wp.block ?_))))))))))
    generalize hx : ns[i] = x at *
    have hB : (bs ++ numsB (ns.take i)).length ≤ bs.length + 9 * i := by
      have := numsB_len (ns.take i)
      rw [List.length_take, Nat.min_eq_left (by omega)] at this
      simp; omega
    have hnext : bs ++ numsB (ns.take (i + 1)) = (bs ++ numsB (ns.take i)) ++ numB (clampN x) := by
      simp [numsB, List.take_add_one, h1]
    generalize hBB : bs ++ numsB (ns.take i) = B at *
    have hc9 := numB_clamp_len x
    have hcl := clampN_lt x
    refine Wp.loopE (fun k e h => ∃ (pre : List UInt8) (a : Option Addr) (c : Nat), pre ++ numB k = numB (clampN x) ∧ k ≤ clampN x ∧ e = [(0, vp w 0), (6, .int .u64 k), (9, .slice (some ⟨nb, 0, none⟩) ns.length ns.length), (10, vi ns.length), (11, vi i)] ∧ h = octL w nb a c (B ++ pre) ns) (clampN x)
      (e0 := [(0, vp w 0), (6, .int .u64 (clampN x)), (9, .slice (some ⟨nb, 0, none⟩) ns.length ns.length), (10, vi ns.length), (11, vi i)]) (l0 := octL w nb a c (B ++ []) ns) (by rw [clamp_wrap]; exact (by repeat (first | exact trivial | refine ⟨rfl, ?_⟩))) (by repeat (first | exact trivial | refine ⟨rfl, ?_⟩)) ?_ ⟨[], a, c, rfl, Nat.le_refl _, rfl, rfl⟩ ?_
    · rw [List.append_nil]; exact Gh.rfl_
    rintro m e h ⟨pre, a, c, hpre, hle, rfl, rfl⟩
    have hnp := numB_pos m
    have hp9 : pre.length + (numB m).length ≤ 9 := by rw [← List.length_append, hpre]; exact hc9
    have hBl : (B ++ pre).length ≤ 1099511627776 - 1 := by rw [List.length_append]; omega
    by_cases hm : 128 ≤ m
    · have hsh := shr7 m
      have hm' : (128 : Int) ≤ m := by omega
      have hlay := lay_hi m
      refine Wp.seq (Wsr (Ls (Rdo.move rfl) (Ls (Rdo.gei rfl rfl) (Lnt (cK rfl (Wp.skip (Thn.n (Wp.seq (Wp.block (Wp.region (Ls (Rdo.move rfl) (Ls (Rdo.move rfl) (Ls (Rdo.nilCheck rfl) ?_)))))))))))))
      refine Ls (Rdo.fieldAddr0 rfl) (Ls (Rdo.load rfl (Lds.one rfl)) (Ls (Rdo.move rfl) (Ls (Rdo.convInt rfl) (Ls (Rdo.or rfl rfl) ?_))))
      (refine WpL.step (Stp.sliceV rfl rfl (VCs.cons (VC.i _ _) (by first | rfl | assumption | (simp <;> done)) VCs.nil) (by simp only [List.cons_append, List.nil_append, List.append_nil]; exact rfl) rfl rfl ?_); intro nb21)
      (refine WpL.step (Stp.appendP rfl rfl (Pk.next (Pk.next Pk.here)) (Src.cel (by first | rfl | (simp <;> done) | (simp <;> omega))) (by first | rfl | (simp <;> done) | (simp <;> omega)) (by first | assumption | exact oneCells1 rfl | exact oneCells1 (by assumption) | exact oneCells_bytesC _ | exact oneCells_votesC _ | (simp [oneCells, Value.oneCell'] <;> done)) (by first | omega | (simp <;> omega)) (by first | omega | (simp <;> omega)) rfl (by first | rfl | (simp <;> done)) ?_); intro na22 nc22)
      refine Ls (Rdo.nilCheck rfl) (Ls (Rdo.fieldAddr0 rfl) ?_)
      refine WpL.step (Stp.storeV rfl rfl (VC.sl _ _ _) rfl (Sts.next (Sts.next (Sp (oneCells1 rfl)))) ?_)
      refine WpL.nil (Blk.n (Thn.n (Wp.region (Ls (Rdo.move rfl) ?_))))
      refine Ls (Rdo.shrE rfl rfl (by omega) (by assumption)) ?_
      refine Ls (Rdo.assign rfl) (Lnt ?_)
      rw [hlay, ← bytesC_snoc]
      have e1 : (B ++ pre).length + 1 = (B ++ (pre ++ [UInt8.ofNat (m % 128 + 128)])).length := by simp [Nat.add_assoc]
      rw [e1, List.append_assoc]
      exact ⟨m / 128, _, _, by omega, ⟨pre ++ [UInt8.ofNat (m % 128 + 128)], na22, nc22, by rw [← hpre, numB_ge (n := m) (by omega)]; simp, by omega, rfl, rfl⟩, (by repeat (first | exact trivial | refine ⟨rfl, ?_⟩)), Gk⟩
    · have hm' : ¬ (128 : Int) ≤ m := by omega
      have hlay := lay_lo m (by omega)
      refine Wp.seq (Wsr (Ls (Rdo.move rfl) (Ls (Rdo.gei rfl rfl) (Lnt (cL rfl ?_)))))
      refine Wp.exit ?_
      refine Thn.x ?_
      refine Thn.x ?_
      refine Blk.here ?_
      refine Thn.n (Wp.region (Ls (Rdo.move rfl) (Ls (Rdo.move rfl) (Ls (Rdo.nilCheck rfl) (Ls (Rdo.fieldAddr0 rfl) (Ls (Rdo.load rfl (Lds.one rfl)) (Ls (Rdo.move rfl) (Ls (Rdo.convInt rfl) ?_))))))))
      (refine WpL.step (Stp.sliceV rfl rfl (VCs.cons (VC.i _ _) (by first | rfl | assumption | (simp <;> done)) VCs.nil) (by simp only [List.cons_append, List.nil_append, List.append_nil]; exact rfl) rfl rfl ?_); intro nb21)
      (refine WpL.step (Stp.appendP rfl rfl (Pk.next (Pk.next Pk.here)) (Src.cel (by first | rfl | (simp <;> done) | (simp <;> omega))) (by first | rfl | (simp <;> done) | (simp <;> omega)) (by first | assumption | exact oneCells1 rfl | exact oneCells1 (by assumption) | exact oneCells_bytesC _ | exact oneCells_votesC _ | (simp [oneCells, Value.oneCell'] <;> done)) (by first | omega | (simp <;> omega)) (by first | omega | (simp <;> omega)) rfl (by first | rfl | (simp <;> done)) ?_); intro na22 nc22)
      refine Ls (Rdo.nilCheck rfl) (Ls (Rdo.fieldAddr0 rfl) ?_)
      refine WpL.step (Stp.storeV rfl rfl (VC.sl _ _ _) rfl (Sts.next (Sts.next (Sp (oneCells1 rfl)))) ?_)
      refine WpL.nil (Blk.n (Thn.n (Wp.region ?_)))
      refine Ls (Rdo.succ rfl rfl (by omega)) ?_
      refine Ls (Rdo.move rfl) (Lnt ?_)
      rw [hlay, ← bytesC_snoc]
      have e1 : (B ++ pre).length + 1 = (B ++ (pre ++ [UInt8.ofNat m])).length := by simp [Nat.add_assoc]
      have e2 : pre ++ [UInt8.ofNat m] = numB (clampN x) := by rw [← hpre, numB_lt (n := m) (by omega)]
      rw [e1, List.append_assoc, e2, ← hnext]
      exact ⟨k - 1, _, _, by omega, ⟨i + 1, na22, nc22, by omega, rfl, rfl⟩, (by repeat (first | exact trivial | refine ⟨rfl, ?_⟩)), Gk⟩
  ·
    have hfull : ns.take i = ns := List.take_of_length_le (by omega)
    rw [hfull]
    have hsh := @wrA_shut w (bs ++ numsB ns) a c
    generalize bs ++ numsB ns = B at *
    refine Wsr (Ls (Rdo.lti rfl rfl) (Lnt (Wp.seq (cL rfl ?_))))
    refine Wp.exit ?_
    refine Thn.x ?_
    refine Thn.x ?_
    refine Blk.here ?_
    exact Ret.end_ ResV.nil (Gh.trans (Gh.drop (Pk.next (Pk.next Pk.here))) hsh) ⟨rfl, rfl⟩
end Go.Proofs.YtccgdnocldmjeaaGreatDoor
namespace Go.Proofs.YtccgdnocldmjeaaGreatDoor
open Go
set_option maxHeartbeats 4000000
set_option linter.unusedSimpArgs false
set_option linter.unusedVariables false
set_option maxRecDepth 20000
/-- Bytes are laid as they are. -/
theorem raw_ok (w : Nat) (bs : List UInt8) (v : Value) (xs : List UInt8) (hl : bs.length + xs.length ≤ 1099511627776) :
    Trip Tryz.prog 52 [vp w 0, v] [wrA w bs, fz (fun g => RdBytes g v xs)]
      (fun r l => r = .tuple #[] ∧ l = [wrA w (bs ++ xs), fz (fun g => RdBytes g v xs)]) := by
  refine Trip.ghE wrA_open ?_
  rintro ⟨a0, c0⟩ _
  simp only
  refine Trip.of_body Tryz.func52 rfl Tryz.ntmps52 Tryz.results52 rfl ?_
  refine Wsr (Ls (Rdo.move rfl) (Ls (Rdo.nenil rfl rfl) (Lnt ?_)))
  refine Wp.condT rfl ?_
  refine Wp.region (Ls (Rdo.move rfl) (Ls (Rdo.move rfl) (Ls (Rdo.nilCheck rfl) (Ls (Rdo.fieldAddr0 rfl) (Ls (Rdo.load rfl (Lds.one rfl)) (Ls (Rdo.move rfl) ?_))))))
  refine WpL.step (Stp.appendP rfl rfl (Pk.next Pk.here) (Src.next Src.frozen) (by simp [bytesC_length]) (oneCells_bytesC xs) (by omega) (by omega) rfl (by rfl) ?_)
  intro a' c'
  have e1 : bs.length + xs.length = (bs ++ xs).length := by simp
  have e2 : bytesC bs ++ bytesC xs = bytesC (bs ++ xs) := by simp [bytesC]
  rw [e1, e2]
  refine Ls (Rdo.nilCheck rfl) (Ls (Rdo.fieldAddr0 rfl) ?_)
  refine WpL.step (Stp.storeV rfl rfl (VC.sl _ _ _) rfl (Sts.next (Sp (oneCells1 rfl))) ?_)
  refine WpL.nil ?_
  exact Ret.end_ ResV.nil (Gh.trans Gk (wrA_shut (a := a') (c := c'))) ⟨rfl, rfl⟩
/-- What was laid. -/
theorem out_ok (w : Nat) (bs : List UInt8) (hl : bs.length ≤ 1099511627776) :
    Trip Tryz.prog 28 [vp w 0] [wrA w bs]
      (fun r l => ∃ a c, r = .slice a bs.length c ∧ l = [fz (fun g => RdBytes g (.slice a bs.length c) bs)]) := by
  refine Trip.ghE wrA_open ?_
  rintro ⟨a0, c0⟩ _
  simp only
  refine Trip.of_body Tryz.func28 rfl Tryz.ntmps28 Tryz.results28 rfl ?_
  refine Wsr (Ls (Rdo.assign rfl) (Lnt (Wp.seq (Wsr (Ls (Rdo.move rfl) (Ls (Rdo.eqnil rfl rfl) (Lnt ?_)))))))
  refine Wp.condF rfl ?_
  refine Wp.skip (Thn.n (Wsr (Ls (Rdo.move rfl) (Ls (Rdo.nilCheck rfl) (Ls (Rdo.fieldAddr0 rfl) (Ls (Rdo.load rfl (Lds.one rfl)) ?_))))))
  refine WpL.gh (Gh.ice (Pk.next Pk.here)) ?_
  have s1 := bytesClone_ok (.slice a0 bs.length c0) bs hl
  refine WpL.step (Sc (s1) rfl ?_)
  rintro _ _ ⟨v1_0, ⟨v1_1, ⟨rfl, rfl⟩⟩⟩
  refine Ll ?_
  refine Ls (Rdo.assign rfl) (Lnt (Wp.ret ?_))
  refine Rt (ResV.tmp rfl ResV.nil) ⟨_, ⟨_, ⟨rfl, rfl⟩⟩⟩
end Go.Proofs.YtccgdnocldmjeaaGreatDoor
namespace Go.Proofs.YtccgdnocldmjeaaGreatDoor
open Go
set_option maxHeartbeats 4000000
set_option linter.unusedSimpArgs false
set_option linter.unusedVariables false
set_option maxRecDepth 20000
theorem and127 (n : Nat) (h : n < 18446744073709551616) : bits .and .u64 (n : Int) 127 = ((n % 128 : Nat) : Int) := by
  have h2 := u64_and_nat n 127 h (by omega)
  have h3 : n &&& 127 = n % 128 := Nat.and_two_pow_sub_one_eq_mod n 7
  rw [← h3]
  exact h2
theorem lay_hi2 (n : Nat) (h : n < 18446744073709551616) : bits .or .u8 (IntKind.u8.wrap (bits .and .u64 (n : Int) 127)) 128 = ((UInt8.ofNat (n % 128 + 128)).toNat : Int) := by
  rw [and127 n h, lay_hi]
  rw [Nat.mod_mod]
theorem num_ok (v : Int) (hv : -9223372036854775808 ≤ v ∧ v ≤ 9223372036854775807) : Trip Tryz.prog 87 [vi v] [] (fun r l => ∃ a c, r = .slice a (numB (clampN v)).length c ∧ l = [rowA 5 1 (.slice a (numB (clampN v)).length c) (numB (clampN v)).length (bytesC (numB (clampN v)))]) := by
  refine Trip.of_body Tryz.func87 rfl Tryz.ntmps87 Tryz.results87 rfl ?_
  refine Wsr (Ls (Rdo.assign rfl) (Lnt (Wsr (Ls (Rdo.assign rfl) (Lnt (Wp.seq (Wsr (Ls (Rdo.move rfl) (Ls (Rdo.gti rfl rfl) (Lnt ?_))))))))))
  have hcl := clampN_lt v
  refine Wp.mono (Q := fun x e' l' => x = .normal ∧ EnvSub [(0, vi v), (3, .int .u64 (clampN v))] e' ∧ Gh l' []) ?_ ?_
  · by_cases h1 : (4611686018427387904 : Int) < v
    · have hc : clampN v = 4611686018427387904 := by unfold clampN; rw [if_neg (by omega), if_pos h1]
      rw [hc]
      refine cK rfl (Wp.region (Ls (Rdo.assign rfl) (WpL.nil ?_)))
      exact ⟨rfl, (by repeat (first | exact trivial | refine ⟨rfl, ?_⟩)), Gk⟩
    · by_cases h2 : v > 0
      · have hc : IntKind.u64.wrap v = (clampN v : Int) := by
          have := clamp_wrap v
          rwa [if_neg h1, if_pos h2] at this
        refine cL rfl (Wsr (Ls (Rdo.move rfl) (Ls (Rdo.gti rfl rfl) (Lnt (cK rfl (Wp.region (Ls (Rdo.move rfl) (Ls (Rdo.convInt rfl) (Ls (Rdo.assign rfl) (WpL.nil ?_))))))))))
        rw [hc]
        exact ⟨rfl, (by repeat (first | exact trivial | refine ⟨rfl, ?_⟩)), Gk⟩
      · have hc : clampN v = 0 := by unfold clampN; split <;> (try split) <;> omega
        rw [hc]
        refine cL rfl (Wsr (Ls (Rdo.move rfl) (Ls (Rdo.gti rfl rfl) (Lnt (cL rfl (Wp.skip ?_))))))
        exact ⟨rfl, (by repeat (first | exact trivial | refine ⟨rfl, ?_⟩)), Gk⟩
  · rintro x e' l' ⟨rfl, he, hg⟩
    refine Thn.n (Wp.gh hg (Wp.sub he ?_))
    have hc9 := numB_clamp_len v
    refine Wsr (Ls (Rdo.assign rfl) (Lnt (Wp.seq (Wp.block ?_))))
    refine Wp.loopE (fun k e h => ∃ (pre : List UInt8) (a : Option Addr) (c : Nat), pre ++ numB k = numB (clampN v) ∧ k ≤ clampN v ∧ e = [(0, vi v), (3, .int .u64 k), (4, .slice a pre.length c)] ∧ h = [rowA 5 1 (.slice a pre.length c) pre.length (bytesC pre)]) (clampN v)
      (e0 := [(0, vi v), (3, .int .u64 (clampN v)), (4, .slice none 0 0)]) (l0 := [rowA 5 1 (.slice none 0 0) 0 []]) (by repeat (first | exact trivial | refine ⟨rfl, ?_⟩)) (by repeat (first | exact trivial | refine ⟨rfl, ?_⟩)) (Gh.trans (Gh.nil 5 1) Gk) ⟨[], none, 0, rfl, Nat.le_refl _, rfl, rfl⟩ ?_
    rintro m e h ⟨pre, a, c, hpre, hle, rfl, rfl⟩
    have hnp := numB_pos m
    have hp9 : pre.length + (numB m).length ≤ 9 := by rw [← List.length_append, hpre]; exact hc9
    by_cases hm : 128 ≤ m
    · have hsh := shr7 m
      have hm' : (m : Int) ≥ 128 := by omega
      have hlay := lay_hi2 m (by omega)
      refine Wp.seq (Wsr (Ls (Rdo.move rfl) (Ls (Rdo.gei rfl rfl) (Lnt (cK rfl (Wp.skip (Thn.n (Wp.block (Wsr (Ls (Rdo.move rfl) (Ls (Rdo.move rfl) (Ls (Rdo.and rfl rfl) (Ls (Rdo.convInt rfl) ?_)))))))))))))
      refine Ls (Rdo.or rfl rfl) ?_
      (refine WpL.step (Stp.sliceV rfl rfl (VCs.cons (VC.i _ _) (by first | rfl | assumption | (simp <;> done)) VCs.nil) (by simp only [List.cons_append, List.nil_append, List.append_nil]; exact rfl) rfl rfl ?_); intro nb18)
      (refine WpL.step (Stp.appendP rfl rfl (Pk.next Pk.here) (Src.cel (by first | rfl | (simp <;> done) | (simp <;> omega))) (by first | rfl | (simp <;> done) | (simp <;> omega)) (by first | assumption | exact oneCells1 rfl | exact oneCells1 (by assumption) | exact oneCells_bytesC _ | exact oneCells_votesC _ | (simp [oneCells, Value.oneCell'] <;> done)) (by first | omega | (simp <;> omega)) (by first | omega | (simp <;> omega)) rfl (by first | rfl | (simp <;> done)) ?_); intro na19 nc19)
      refine Ls (Rdo.assign rfl) (Lnt (Wp.region (Ls (Rdo.move rfl) ?_)))
      refine Ls (Rdo.shrE rfl rfl (by omega) (by assumption)) ?_
      refine Ls (Rdo.assign rfl) (WpL.nil (Blk.n (Thn.n ?_)))
      rw [hlay, ← bytesC_snoc]
      have e1 : pre.length + 1 = (pre ++ [UInt8.ofNat (m % 128 + 128)]).length := by simp
      rw [e1]
      exact ⟨m / 128, _, _, by omega, ⟨pre ++ [UInt8.ofNat (m % 128 + 128)], _, _, by rw [← hpre, numB_ge (n := m) (by omega)]; simp, by omega, rfl, rfl⟩, (by repeat (first | exact trivial | refine ⟨rfl, ?_⟩)), Gk⟩
    · have hm' : ¬ (m : Int) ≥ 128 := by omega
      have hlay := lay_lo m (by omega)
      have e2 : pre ++ [UInt8.ofNat m] = numB (clampN v) := by rw [← hpre, numB_lt (n := m) (by omega)]
      have e1 : pre.length + 1 = (numB (clampN v)).length := by rw [← e2]; simp
      refine Wp.seq (Wsr (Ls (Rdo.move rfl) (Ls (Rdo.gei rfl rfl) (Lnt (cL rfl ?_)))))
      refine Wp.exit ?_
      refine Thn.x ?_
      refine Thn.x ?_
      refine Blk.here ?_
      refine Thn.n (Wsr (Ls (Rdo.move rfl) (Ls (Rdo.move rfl) (Ls (Rdo.convInt rfl) ?_))))
      (refine WpL.step (Stp.sliceV rfl rfl (VCs.cons (VC.i _ _) (by first | rfl | assumption | (simp <;> done)) VCs.nil) (by simp only [List.cons_append, List.nil_append, List.append_nil]; exact rfl) rfl rfl ?_); intro nb18)
      (refine WpL.step (Stp.appendP rfl rfl (Pk.next Pk.here) (Src.cel (by first | rfl | (simp <;> done) | (simp <;> omega))) (by first | rfl | (simp <;> done) | (simp <;> omega)) (by first | assumption | exact oneCells1 rfl | exact oneCells1 (by assumption) | exact oneCells_bytesC _ | exact oneCells_votesC _ | (simp [oneCells, Value.oneCell'] <;> done)) (by first | omega | (simp <;> omega)) (by first | omega | (simp <;> omega)) rfl (by first | rfl | (simp <;> done)) ?_); intro na19 nc19)
      refine Ls (Rdo.assign rfl) (Lnt (Wp.ret ?_))
      rw [hlay, ← bytesC_snoc, e1, e2]
      exact Rt (by repeat (first | exact ResV.nil | apply ResV.tmp rfl | apply ResV.cell rfl (by repeat (first | exact Lds.one rfl | (apply Lds.all; (first | rfl | assumption | (simp <;> fail))) | exact Lds.ione0 | exact Lds.ione rfl | (apply Lds.iall; (first | rfl | assumption | (simp <;> fail))) | apply Lds.next)))) ⟨_, _, rfl, rfl⟩
abbrev nsE (v : Value) (w : Value) (i : Nat) : Env := [(0, v), (3, w), (4, vi i)]
theorem numsR_ok (nb : Nat) (ns : List Int) (hl : 9 * ns.length ≤ 1099511627776) (hns : ∀ x ∈ ns, -9223372036854775808 ≤ x ∧ x ≤ 9223372036854775807) :
    Trip Tryz.prog 65 [.slice (some ⟨nb, 0, none⟩) ns.length ns.length] [cel nb 3 (ns.map vi)]
      (fun r l => ∃ a c, r = .slice a (numsB ns).length c ∧ l = [rowA 5 1 (.slice a (numsB ns).length c) (numsB ns).length (bytesC (numsB ns))]) := by
  refine Trip.of_body Tryz.func65 rfl Tryz.ntmps65 Tryz.results65 rfl ?_
  refine Wsr (Ls (Rdo.assign rfl) (Lnt (Wsr (Ls (Rdo.assign rfl) (Lnt (Wp.seq (Wsr (Ls (Rdo.assign rfl) (Lnt (Wp.block ?_))))))))))
  refine Wp.loopE (fun k e h => ∃ (i : Nat) (a : Option Addr) (c : Nat), i + k = ns.length ∧ e = nsE (.slice (some ⟨nb, 0, none⟩) ns.length ns.length) (.slice a (numsB (ns.take i)).length c) i ∧ h = [rowA 5 1 (.slice a (numsB (ns.take i)).length c) (numsB (ns.take i)).length (bytesC (numsB (ns.take i))), cel nb 3 (ns.map vi)]) ns.length
    (e0 := nsE (.slice (some ⟨nb, 0, none⟩) ns.length ns.length) (.slice none 0 0) 0) (l0 := [rowA 5 1 (.slice none 0 0) 0 [], cel nb 3 (ns.map vi)]) (by repeat (first | exact trivial | refine ⟨rfl, ?_⟩)) (by repeat (first | exact trivial | refine ⟨rfl, ?_⟩)) (Gh.trans (Gh.nil 5 1) Gk) ⟨0, none, 0, by omega, rfl, rfl⟩ ?_
  rintro k e h ⟨i, a, c, hik, rfl, rfl⟩
  have hB := numsB_len (ns.take i)
  rw [List.length_take] at hB
  by_cases hi : i < ns.length
  · have hi' : (i : Int) < ns.length := by omega
    have h1 : ns[i]? = some ns[i] := List.getElem?_eq_getElem hi
    have h2 : (ns.map vi)[0 + i * 1]? = some (vi ns[i]) := by rw [show 0 + i * 1 = i by omega, List.getElem?_map, h1]; rfl
    have s1 := num_ok ns[i] (hns _ (List.getElem_mem hi))
    have h9 := numB_clamp_len ns[i]
    generalize ns[i] = x at *
    have htk : numsB (ns.take (i + 1)) = numsB (ns.take i) ++ numB (clampN x) := by simp [numsB, List.take_add_one, h1]
    generalize numB (clampN x) = M at *
    generalize hN1 : numsB (ns.take (i + 1)) = N1 at htk
    generalize numsB (ns.take i) = N0 at *
    refine Wp.seq (Wsr (Ls (Rdo.move rfl) (Ls (Rdo.move rfl) (Ls (Rdo.lenSlice rfl) (Ls (Rdo.lti rfl rfl) (Lnt (cK rfl (Wp.skip (Thn.n (Wp.seq (Wp.block (Wp.region (Ls (Rdo.move rfl) ?_)))))))))))))
    refine Ls (Rdo.move rfl) (Ls (Rdo.move rfl) ?_)
    refine Ls (Rdo.indexSlice rfl rfl (by omega)) ?_
    refine Ls (Rdo.load rfl (Lds.next (Lds.one (by assumption)))) ?_
    refine WpL.step (Sc (s1) rfl ?_)
    rintro _ _ ⟨v21_0, ⟨v21_1, ⟨rfl, rfl⟩⟩⟩
    refine Ll ?_
    refine WpL.gh (Gh.ice Pk.here) ?_
    refine WpL.step (Stp.appendP rfl rfl (Pk.next Pk.here) Src.frozen (by simp [bytesC_length]) (oneCells_bytesC M) (by omega) (by omega) rfl (by rfl) ?_)
    intro na nc
    have e1 : N0.length + M.length = N1.length := by rw [htk, List.length_append]
    have e2 : bytesC N0 ++ bytesC M = bytesC N1 := by rw [htk]; simp [bytesC]
    rw [e1, e2]
    subst hN1
    refine Ls (Rdo.assign rfl) (WpL.nil (Blk.n (Thn.n (Wp.region (Ls (Rdo.move rfl) ?_)))))
    refine Ls (Rdo.succ rfl rfl (by omega)) ?_
    refine Ls (Rdo.assign rfl) (Lnt ?_)
    exact ⟨k - 1, _, _, by omega, ⟨i + 1, na, nc, by omega, rfl, rfl⟩, (by repeat (first | exact trivial | refine ⟨rfl, ?_⟩)), Gk⟩
  · have hfull : ns.take i = ns := List.take_of_length_le (by omega)
    rw [hfull]
    refine Wp.seq (Wsr (Ls (Rdo.move rfl) (Ls (Rdo.move rfl) (Ls (Rdo.lenSlice rfl) (Ls (Rdo.lti rfl rfl) (Lnt (cL rfl ?_)))))))
    refine Wp.exit ?_
    refine Thn.x ?_
    refine Thn.x ?_
    refine Blk.here ?_
    refine Thn.n (Wsr (Ls (Rdo.move rfl) (Ls (Rdo.assign rfl) (Lnt (Wp.ret ?_)))))
    refine Rt (ResV.tmp rfl ResV.nil) ⟨_, ⟨_, ⟨rfl, rfl⟩⟩⟩
end Go.Proofs.YtccgdnocldmjeaaGreatDoor
namespace Go.Proofs.YtccgdnocldmjeaaGreatDoor
open Go
set_option maxHeartbeats 4000000
set_option linter.unusedSimpArgs false
set_option linter.unusedVariables false
set_option maxRecDepth 20000
def rowB (xs : List UInt8) : List UInt8 := numB xs.length ++ xs
theorem numsB_one (n : Nat) (h : n ≤ 4611686018427387904) : numsB [(n : Int)] = numB n := by
  have : clampN (n : Int) = n := by unfold clampN; rw [if_neg (by omega), if_neg (by omega)]; omega
  simp [numsB, this]
abbrev byE (w nb i : Nat) (a : Option Addr) : Env := [(0, vp w 0), (6, .slice (some ⟨nb, 0, none⟩) 1 1), (7, .int .i64 (1 : Nat)), (8, vi i)]
theorem bytes_ok (w nb : Nat) (bs : List UInt8) (v : Value) (xs : List UInt8) (hl : bs.length + xs.length ≤ 1000000000000) :
    Trip Tryz.prog 27 [vp w 0, .slice (some ⟨nb, 0, none⟩) 1 1] [wrA w bs, cel nb 49 [v], fz (fun g => RdBytes g v xs)]
      (fun r l => r = .tuple #[] ∧ l = [wrA w (bs ++ rowB xs), fz (fun g => RdBytes g v xs)]) := by
  refine Trip.get (Pk.next (Pk.next Pk.here)) shape_bytes ?_
  rintro ⟨a, c, rfl⟩
  have hx9 : (numB xs.length).length ≤ 9 := numB_len 8 _ (by omega)
  have s1 : ∀ nb', Trip Tryz.prog 26 [vp w 0, .slice (some ⟨nb', 0, none⟩) 1 1] [wrA w bs, cel nb' 3 [vi xs.length]] (fun r l => r = .tuple #[] ∧ l = [wrA w (bs ++ numB xs.length)]) := by
    intro nb'
    have h := nums_ok w nb' bs [(xs.length : Int)] (by simp; omega)
    rw [numsB_one _ (by omega)] at h
    exact h
  have s2 := raw_ok w (bs ++ numB xs.length) (.slice a xs.length c) xs (by simp; omega)
  rw [List.append_assoc] at s2
  change Trip _ _ _ _ (fun r l => r = .tuple #[] ∧ l = [wrA w (bs ++ rowB xs), fz (fun g => RdBytes g (.slice a xs.length c) xs)]) at s2
  refine Trip.of_body Tryz.func27 rfl Tryz.ntmps27 Tryz.results27 rfl ?_
  refine Wsr (Ls (Rdo.move rfl) (Ls (Rdo.lenSlice rfl) (Ls (Rdo.move rfl) (Lnt (Wp.block ?_)))))
  refine Wp.loopE (fun k e h => (k = 1 ∧ e = byE w nb 0 a ∧ h = [wrA w bs, cel nb 49 [.slice a xs.length c], fz (fun g => RdBytes g (.slice a xs.length c) xs)]) ∨ (k = 0 ∧ e = byE w nb 1 a ∧ h = [wrA w (bs ++ rowB xs), fz (fun g => RdBytes g (.slice a xs.length c) xs)])) 1
    (e0 := byE w nb 0 a) (l0 := [wrA w bs, cel nb 49 [.slice a xs.length c], fz (fun g => RdBytes g (.slice a xs.length c) xs)]) (by repeat (first | exact trivial | refine ⟨rfl, ?_⟩)) (by repeat (first | exact trivial | refine ⟨rfl, ?_⟩)) Gh.rfl_ (.inl ⟨rfl, rfl, rfl⟩) ?_
  rintro k e h (⟨rfl, rfl, rfl⟩ | ⟨rfl, rfl, rfl⟩)
  · refine Wsr (Ls (Rdo.lti rfl rfl) (Lnt (Wp.seq ?_)))
    refine Wp.condT rfl ?_
    refine Wp.skip (Thn.n (Wp.seq (Wp.block (Wsr ?_))))
    refine Ls (Rdo.indexSlice rfl rfl (by omega)) ?_
    refine Ls (Rdo.load rfl (Lds.next (Lds.one rfl))) (Ls (Rdo.assign rfl) (Lnt (Wsr (Ls (Rdo.move rfl) (Ls (Rdo.move rfl) (Ls (Rdo.lenSlice rfl) ?_))))))
    (refine WpL.step (Stp.sliceV rfl rfl (VCs.cons (VC.i _ _) (by first | rfl | assumption | (simp <;> done)) VCs.nil) (by simp only [List.cons_append, List.nil_append, List.append_nil]; exact rfl) rfl rfl ?_); intro nb23)
    refine WpL.step (Sc (s1 _) rfl ?_)
    rintro _ _ ⟨rfl, rfl⟩
    refine Ll ?_
    refine Lnt (Wp.region (Ls (Rdo.move rfl) (Ls (Rdo.move rfl) ?_)))
    refine WpL.step (Sc (s2) rfl ?_)
    rintro _ _ ⟨rfl, rfl⟩
    refine Ll ?_
    refine WpL.nil (Blk.n (Thn.n (Wp.region ?_)))
    refine Ls (Rdo.succ rfl rfl (by omega)) ?_
    refine Ls (Rdo.move rfl) (Lnt ?_)
    exact ⟨0, _, _, by omega, .inr ⟨rfl, rfl, rfl⟩, (by repeat (first | exact trivial | refine ⟨rfl, ?_⟩)), Gk⟩
  · refine Wsr (Ls (Rdo.lti rfl rfl) (Lnt (Wp.seq ?_)))
    refine Wp.condF rfl ?_
    refine Wp.exit ?_
    refine Thn.x ?_
    refine Thn.x ?_
    refine Blk.here ?_
    refine Ret.end_ ResV.nil Gk ⟨rfl, rfl⟩
end Go.Proofs.YtccgdnocldmjeaaGreatDoor
namespace Go.Proofs.YtccgdnocldmjeaaGreatDoor
open Go
set_option maxHeartbeats 4000000
set_option linter.unusedSimpArgs false
set_option linter.unusedVariables false
set_option maxRecDepth 20000
/-- A set of bytes, as the library keeps it. -/
def setC (p : Nat → Bool) : List Value := (List.range 256).map fun i => vb (p i)
theorem setC_len (p : Nat → Bool) : (setC p).length = 256 := by simp [setC]
theorem setC_at (p : Nat → Bool) (b : UInt8) : (setC p)[b.toNat]? = some (vb (p b.toNat)) := by
  have := b.toNat_lt
  simp [setC, this]
theorem setC_put (p : Nat → Bool) (b : UInt8) : lput (setC p) b.toNat [vb true] = setC (fun i => p i || decide (i = b.toNat)) := by
  have hb := b.toNat_lt
  rw [lput_step _ _ _ _ (by rw [setC_len]; exact hb), lput_nil]
  apply List.ext_getElem?
  intro j
  by_cases hj : b.toNat = j
  · subst hj
    rw [List.getElem?_set_self (by rw [setC_len]; exact hb), setC_at]
    simp
  · rw [List.getElem?_set_ne hj]
    by_cases hlt : j < 256
    · simp [setC, hlt, Ne.symm hj]
    · simp [setC, hlt]
theorem oneCells_setC (p : Nat → Bool) : oneCells (setC p) := by
  intro v hv
  obtain ⟨i, _, rfl⟩ := List.mem_map.1 hv
  rfl
theorem contains_ok (ab : Nat) (ta : TypeId) (p : Nat → Bool) (c : UInt8) : Trip Tryz.prog 92 [vp ab 0, .int .u8 c.toNat] [cel ab ta (setC p)] (fun r l => r = vb (p c.toNat) ∧ l = [cel ab ta (setC p)]) := by
  have hc := c.toNat_lt
  have h1 : (setC p)[0 + c.toNat * 1]? = some (vb (p c.toNat)) := by simpa using setC_at p c
  refine Trip.of_body Tryz.func92 rfl Tryz.ntmps92 Tryz.results92 rfl ?_
  refine Wsr (Ls (Rdo.assign rfl) (Lnt (Wsr (Ls (Rdo.move rfl) (Ls (Rdo.move rfl) (Ls (Rdo.nilCheck rfl) ?_))))))
  refine Ls (Rdo.indexArr rfl rfl (by omega)) ?_
  refine Ls (Rdo.load rfl (Lds.one (by assumption))) ?_
  refine Ls (Rdo.assign rfl) (Lnt (Wp.ret ?_))
  refine Rt (ResV.tmp rfl ResV.nil) ⟨rfl, rfl⟩
theorem trimLeft_ok (ab : Nat) (ta : TypeId) (p : Nat → Bool) (s : List UInt8) (hs : s.length ≤ 1099511627776) : Trip Tryz.prog 74 [vs s, vp ab 0] [cel ab ta (setC p)]
    (fun r l => r = vs (s.dropWhile fun b => p b.toNat) ∧ l = [cel ab ta (setC p)]) := by
  refine Trip.of_body Tryz.func74 rfl Tryz.ntmps74 Tryz.results74 rfl ?_
  refine Wsr (Ls (Rdo.assign rfl) (Lnt (Wp.seq (Wp.block ?_))))
  refine Wp.loopE (fun k e h => ∃ t : List UInt8, t.length = k ∧ t.length ≤ s.length ∧ (t.dropWhile fun b => p b.toNat) = (s.dropWhile fun b => p b.toNat) ∧ e = [(0, vs t), (1, vp ab 0)] ∧ h = [cel ab ta (setC p)]) s.length
    (e0 := [(0, vs s), (1, vp ab 0)]) (l0 := [cel ab ta (setC p)]) (by repeat (first | exact trivial | refine ⟨rfl, ?_⟩)) (by repeat (first | exact trivial | refine ⟨rfl, ?_⟩)) Gh.rfl_ ⟨s, rfl, by omega, rfl, rfl, rfl⟩ ?_
  rintro k e h ⟨t, hk, hts, hd, rfl, rfl⟩
  cases t with
  | nil =>
    refine Wp.seq (Wsr (Ls (Rdo.move rfl) (Ls (Rdo.lenVs rfl) (Ls (Rdo.gti rfl rfl) (Lnt ?_)))))
    refine Wp.condF rfl ?_
    refine Wp.exit ?_
    refine Thn.x ?_
    refine Thn.x ?_
    refine Blk.here ?_
    refine Thn.n (Wsr (Ls (Rdo.move rfl) (Ls (Rdo.assign rfl) (Lnt (Wp.ret ?_)))))
    refine Rt (ResV.tmp rfl ResV.nil) ⟨(by first | rfl | (simp [packed] <;> done) | (simp_all [packed] <;> done)), rfl⟩
    all_goals exact Ret.now (ResV.tmp rfl ResV.nil) Gh.rfl_ ⟨by simp only [packed]; rw [← hd]; rfl, rfl⟩
  | cons b t =>
    have h1 : (b :: t)[0]? = some b := rfl
    simp at hk hts
    cases hb : p b.toNat with
    | true =>
      refine Wp.seq (Wsr (Ls (Rdo.move rfl) (Ls (Rdo.lenVs rfl) (Ls (Rdo.gti rfl rfl) (Lnt (cK rfl (Wp.skip (Thn.n (Wp.block (Wp.seq (Wsr (Ls (Rdo.move rfl) (Ls (Rdo.move rfl) ?_)))))))))))))
      refine Ls (Rdo.indexVs rfl rfl (by assumption)) ?_
      refine WpL.step (Sc (contains_ok _ _ _ _) rfl ?_)
      rintro _ _ ⟨rfl, rfl⟩
      refine Ll ?_
      refine Ls (Rdo.not rfl) (Lnt (cL rfl (Wp.skip (Thn.n (Wp.region (Ls (Rdo.move rfl) ?_))))))
      refine Ls (Rdo.strFrom rfl rfl (by first | omega | (simp <;> omega))) ?_
      refine Ls (Rdo.assign rfl) (WpL.nil (Blk.n (Thn.n ?_)))
      exact ⟨t.length, _, _, by omega, ⟨t, rfl, by omega, by rw [← hd, List.dropWhile_cons, if_pos hb], rfl, rfl⟩, (by repeat (first | exact trivial | refine ⟨rfl, ?_⟩)), Gh.rfl_⟩
    | false =>
      refine Wp.seq (Wsr (Ls (Rdo.move rfl) (Ls (Rdo.lenVs rfl) (Ls (Rdo.gti rfl rfl) (Lnt (cK rfl (Wp.skip (Thn.n (Wp.block (Wp.seq (Wsr (Ls (Rdo.move rfl) (Ls (Rdo.move rfl) ?_)))))))))))))
      refine Ls (Rdo.indexVs rfl rfl (by assumption)) ?_
      refine WpL.step (Sc (contains_ok _ _ _ _) rfl ?_)
      rintro _ _ ⟨rfl, rfl⟩
      refine Ll ?_
      refine Ls (Rdo.not rfl) (Lnt (cK rfl ?_))
      refine Wp.exit ?_
      refine Thn.x ?_
      refine Blk.other rfl ?_
      refine Thn.x ?_
      refine Blk.here ?_
      refine Thn.n (Wsr (Ls (Rdo.move rfl) (Ls (Rdo.assign rfl) (Lnt (Wp.ret ?_)))))
      refine Rt (ResV.tmp rfl ResV.nil) ⟨(by first | rfl | (simp [packed] <;> done) | (simp_all [packed] <;> done)), rfl⟩
      all_goals exact Ret.now (ResV.tmp rfl ResV.nil) Gh.rfl_ ⟨by simp only [packed]; rw [← hd, List.dropWhile_cons, hb]; rfl, rfl⟩
theorem trimRight_ok (ab : Nat) (ta : TypeId) (p : Nat → Bool) (s : List UInt8) (hs : s.length ≤ 1099511627776) : Trip Tryz.prog 75 [vs s, vp ab 0] [cel ab ta (setC p)]
    (fun r l => r = vs (s.reverse.dropWhile fun b => p b.toNat).reverse ∧ l = [cel ab ta (setC p)]) := by
  refine Trip.of_body Tryz.func75 rfl Tryz.ntmps75 Tryz.results75 rfl ?_
  refine Wsr (Ls (Rdo.assign rfl) (Lnt (Wp.seq (Wp.block ?_))))
  refine Wp.loopE (fun k e h => ∃ t : List UInt8, t.length = k ∧ t.length ≤ s.length ∧ (t.reverse.dropWhile fun b => p b.toNat) = (s.reverse.dropWhile fun b => p b.toNat) ∧ e = [(0, vs t), (1, vp ab 0)] ∧ h = [cel ab ta (setC p)]) s.length
    (e0 := [(0, vs s), (1, vp ab 0)]) (l0 := [cel ab ta (setC p)]) (by repeat (first | exact trivial | refine ⟨rfl, ?_⟩)) (by repeat (first | exact trivial | refine ⟨rfl, ?_⟩)) Gh.rfl_ ⟨s, rfl, by omega, rfl, rfl, rfl⟩ ?_
  rintro k e h ⟨t, hk, hts, hd, rfl, rfl⟩
  rcases List.eq_nil_or_concat t with rfl | ⟨t, b, rfl⟩
  · refine Wp.seq (Wsr (Ls (Rdo.move rfl) (Ls (Rdo.lenVs rfl) (Ls (Rdo.gti rfl rfl) (Lnt ?_)))))
    refine Wp.condF rfl ?_
    refine Wp.exit ?_
    refine Thn.x ?_
    refine Thn.x ?_
    refine Blk.here ?_
    refine Thn.n (Wsr (Ls (Rdo.move rfl) (Ls (Rdo.assign rfl) (Lnt (Wp.ret ?_)))))
    refine Rt (ResV.tmp rfl ResV.nil) ⟨(by first | rfl | (simp [packed] <;> done) | (simp_all [packed] <;> done)), rfl⟩
    all_goals exact Ret.now (ResV.tmp rfl ResV.nil) Gh.rfl_ ⟨by simp only [packed]; rw [← hd]; rfl, rfl⟩
  · have h1 : (t.concat b)[t.length]? = some b := by simp
    have hl : (t.concat b).length = t.length + 1 := by simp
    have h2 : ((t.concat b).length : Int) - 1 = (t.length : Int) := by omega
    rw [hl] at hk hts
    rw [List.concat_eq_append, List.reverse_append] at hd
    have h3 : ([b].reverse ++ t.reverse) = b :: t.reverse := rfl
    rw [h3, List.dropWhile_cons] at hd
    cases hb : p b.toNat with
    | true =>
      refine Wp.seq (Wsr (Ls (Rdo.move rfl) (Ls (Rdo.lenVs rfl) (Ls (Rdo.gti rfl rfl) (Lnt (cK rfl (Wp.skip (Thn.n (Wp.block (Wp.seq (Wsr (Ls (Rdo.move rfl) (Ls (Rdo.move rfl) ?_)))))))))))))
      refine Ls (Rdo.move rfl) (Ls (Rdo.lenVs rfl) ?_)
      refine Ls (Rdo.subE rfl rfl (by assumption) (by omega)) ?_
      refine Ls (Rdo.indexVs rfl rfl (by assumption)) ?_
      refine WpL.step (Sc (contains_ok _ _ _ _) rfl ?_)
      rintro _ _ ⟨rfl, rfl⟩
      refine Ll ?_
      refine Ls (Rdo.not rfl) (Lnt (cL rfl (Wp.skip (Thn.n (Wp.region (Ls (Rdo.move rfl) (Ls (Rdo.move rfl) (Ls (Rdo.lenVs rfl) ?_))))))))
      refine Ls (Rdo.subE rfl rfl (by assumption) (by omega)) ?_
      refine Ls (Rdo.strTo rfl rfl (by first | omega | (simp <;> omega))) ?_
      refine Ls (Rdo.assign rfl) (WpL.nil (Blk.n (Thn.n ?_)))
      refine ⟨t.length, _, _, by omega, ⟨t, rfl, by omega, ?_, rfl, rfl⟩, ?_, Gh.rfl_⟩
      · rw [← hd, if_pos hb]
      · have e1 : (t.concat b).take t.length = t := by rw [List.concat_eq_append]; exact List.take_left
        rw [e1]
        exact (by repeat (first | exact trivial | refine ⟨rfl, ?_⟩))
    | false =>
      refine Wp.seq (Wsr (Ls (Rdo.move rfl) (Ls (Rdo.lenVs rfl) (Ls (Rdo.gti rfl rfl) (Lnt (cK rfl (Wp.skip (Thn.n (Wp.block (Wp.seq (Wsr (Ls (Rdo.move rfl) (Ls (Rdo.move rfl) ?_)))))))))))))
      refine Ls (Rdo.move rfl) (Ls (Rdo.lenVs rfl) ?_)
      refine Ls (Rdo.subE rfl rfl (by assumption) (by omega)) ?_
      refine Ls (Rdo.indexVs rfl rfl (by assumption)) ?_
      refine WpL.step (Sc (contains_ok _ _ _ _) rfl ?_)
      rintro _ _ ⟨rfl, rfl⟩
      refine Ll ?_
      refine Ls (Rdo.not rfl) (Lnt (cK rfl ?_))
      refine Wp.exit ?_
      refine Thn.x ?_
      refine Blk.other rfl ?_
      refine Thn.x ?_
      refine Blk.here ?_
      refine Thn.n (Wsr (Ls (Rdo.move rfl) (Ls (Rdo.assign rfl) (Lnt (Wp.ret ?_)))))
      all_goals exact Ret.now (ResV.tmp rfl ResV.nil) Gh.rfl_ ⟨by simp only [packed]; rw [← hd, hb]; simp, rfl⟩
/-- The bytes that are in a set, as makeASCIISet makes it. -/
def inSet (cs : List UInt8) : Nat → Bool := fun i => cs.any fun c => decide (i = c.toNat)
theorem inSet_nil : setC (inSet []) = List.replicate 256 (vb false) := by
  show (List.range 256).map (fun _ => vb false) = _
  rw [List.map_const', List.length_range]
theorem inSet_snoc (cs : List UInt8) (c : UInt8) : lput (setC (inSet cs)) c.toNat [vb true] = setC (inSet (cs ++ [c])) := by
  rw [setC_put]
  congr 1
  funext i
  simp [inSet]
theorem makeSet_ok (cs : List UInt8) (hcs : ∀ c ∈ cs, c.toNat < 128) (hl : cs.length ≤ 1000) : Trip Tryz.prog 73 [vs cs] [] (fun r l => r = .tuple #[.agg (setC (inSet cs)).toArray, vb true] ∧ l = []) := by
  refine Trip.of_body Tryz.func73 rfl Tryz.ntmps73 Tryz.results73 rfl ?_
  refine Wsr ?_
  (refine WpL.step (Stp.alloc rfl ?_); intro nb2)
  refine Ls (Rdo.assign rfl) (Lnt (Wp.seq (Wsr (Ls (Rdo.assign rfl) (Lnt (Wp.block ?_))))))
  rw [← inSet_nil]
  refine Wp.loopE (fun k e h => ∃ i : Nat, i + k = cs.length ∧ e = [(0, vs cs), (2, vp nb2 0), (4, vi i)] ∧ h = [cel nb2 138 (setC (inSet (cs.take i)))]) cs.length
    (e0 := [(0, vs cs), (2, vp nb2 0), (4, vi (0 : Nat))]) (l0 := [cel nb2 138 (setC (inSet []))]) (by repeat (first | exact trivial | refine ⟨rfl, ?_⟩)) (by repeat (first | exact trivial | refine ⟨rfl, ?_⟩)) Gh.rfl_ ⟨0, by omega, rfl, rfl⟩ ?_
  rintro k e h ⟨i, hik, rfl, rfl⟩
  by_cases hi : i < cs.length
  · have h1 : cs[i]? = some cs[i] := List.getElem?_eq_getElem hi
    have hc := hcs cs[i] (List.getElem_mem hi)
    have hlen := setC_len (inSet (cs.take i))
    refine Wp.seq (Wsr (Ls (Rdo.move rfl) (Ls (Rdo.move rfl) (Ls (Rdo.lenVs rfl) (Ls (Rdo.lti rfl rfl) (Lnt (cK rfl (Wp.skip (Thn.n (Wp.seq (Wp.block (Wsr (Ls (Rdo.move rfl) ?_)))))))))))))
    refine Ls (Rdo.move rfl) ?_
    refine Ls (Rdo.indexVs rfl rfl (by assumption)) ?_
    refine Ls (Rdo.assign rfl) (Lnt (Wp.seq (Wsr (Ls (Rdo.move rfl) (Ls (Rdo.gei rfl rfl) (Lnt (cL rfl (Wp.skip (Thn.n (Wp.region (Ls (Rdo.move rfl) ?_)))))))))))
    refine Ls (Rdo.indexArr rfl rfl (by omega)) ?_
    refine WpL.step (Stp.storeV rfl rfl (VC.b _) rfl (Sts.here (oneCells1 rfl) (by rw [hlen]; simp; omega)) ?_)
    rw [show 0 + cs[i].toNat * 1 = cs[i].toNat by omega, inSet_snoc, ← List.take_succ_eq_append_getElem hi]
    refine WpL.nil (Blk.n (Thn.n (Wp.region (Ls (Rdo.move rfl) ?_))))
    refine Ls (Rdo.succ rfl rfl (by omega)) ?_
    refine Ls (Rdo.assign rfl) (Lnt ?_)
    exact ⟨k - 1, _, _, by omega, ⟨i + 1, by omega, rfl, rfl⟩, (by repeat (first | exact trivial | refine ⟨rfl, ?_⟩)), Gh.rfl_⟩
  · have hlen := setC_len (inSet (cs.take i))
    have ho := oneCells_setC (inSet (cs.take i))
    refine Wp.seq (Wsr (Ls (Rdo.move rfl) (Ls (Rdo.move rfl) (Ls (Rdo.lenVs rfl) (Ls (Rdo.lti rfl rfl) (Lnt (cL rfl ?_)))))))
    refine Wp.exit ?_
    refine Thn.x ?_
    refine Thn.x ?_
    refine Blk.here ?_
    refine Thn.n (Wsr ?_)
    refine Ls (Rdo.load rfl Ld) ?_
    refine WpL.step (St rfl rfl (VC.ag _) ?_)
    refine Ls (Rdo.assign rfl) (Lnt (Wp.ret ?_))
    have hfull : cs.take i = cs := List.take_of_length_le (by omega)
    exact Ret.now (ResV.cell rfl (by apply Lds.all; exact hlen) (ResV.tmp rfl ResV.nil)) (Gh.drop Pk.here) ⟨by rw [hfull]; rfl, rfl⟩
/-- The small letters. -/
def letters : List UInt8 := [97, 98, 99, 100, 101, 102, 103, 104, 105, 106, 107, 108, 109, 110, 111, 112, 113, 114, 115, 116, 117, 118, 119, 120, 121, 122]
def small (b : UInt8) : Bool := decide (97 ≤ b.toNat) && decide (b.toNat ≤ 122)
theorem inSet_letters (b : UInt8) : inSet letters b.toNat = small b := by
  have h : ∀ n : Nat, n < 256 → inSet letters n = (decide (97 ≤ n) && decide (n ≤ 122)) := by decide +kernel
  exact h b.toNat b.toNat_lt
theorem dropWhile_nil {p : UInt8 → Bool} : ∀ {l : List UInt8}, l.dropWhile p = [] ↔ ∀ b ∈ l, p b = true
  | [] => by simp
  | a :: l => by
    rw [List.dropWhile_cons]
    by_cases ha : p a = true
    · simp [ha, dropWhile_nil (l := l)]
    · simp [ha]
theorem mem_dropWhile {p : UInt8 → Bool} {l : List UInt8} {b : UInt8} (hb : b ∈ l) (hp : p b = false) : b ∈ l.dropWhile p := by
  induction l with
  | nil => simp at hb
  | cons a l ih =>
    rw [List.dropWhile_cons]
    by_cases ha : p a = true
    · rw [if_pos ha]
      rcases List.mem_cons.1 hb with rfl | hb
      · rw [ha] at hp; cases hp
      · exact ih hb
    · rw [if_neg ha]; exact hb
theorem trimmed_nil (s : List UInt8) : ((s.reverse.dropWhile small).reverse.dropWhile small = []) ↔ ∀ b ∈ s, small b = true := by
  rw [dropWhile_nil]
  constructor
  · intro h b hb
    cases hs : small b with
    | true => rfl
    | false =>
      have h1 : b ∈ (s.reverse.dropWhile small).reverse := List.mem_reverse.2 (mem_dropWhile (List.mem_reverse.2 hb) hs)
      rw [h b h1] at hs
      cases hs
  · intro h b hb
    exact h b (List.mem_reverse.1 ((List.dropWhile_sublist small).subset (List.mem_reverse.1 hb)))
theorem trim_ok (s : List UInt8) (hs : s.length ≤ 1099511627776) : Trip Tryz.prog 48 [vs s, vs letters] [] (fun r l => ∃ t : List UInt8, r = vs t ∧ (t = [] ↔ ∀ b ∈ s, small b = true) ∧ l = []) := by
  by_cases h0 : s = []
  · subst h0
    refine Trip.of_body Tryz.func48 rfl Tryz.ntmps48 Tryz.results48 rfl ?_
    refine Wsr (Ls (Rdo.assign rfl) (Lnt (Wp.seq (Wsr (Ls (Rdo.move rfl) (Ls (Rdo.eqVs rfl rfl) (Ls (Rdo.move rfl) (Lp rfl rfl (Lp rfl rfl (Ls (Rdo.pick_t rfl rfl) (Lnt ?_)))))))))))
    refine Wp.condT rfl ?_
    refine Wsr (Ls (Rdo.move rfl) (Ls (Rdo.assign rfl) (Lnt (Wp.ret ?_))))
    refine Thn.r ?_
    refine Rt (ResV.tmp rfl ResV.nil) ⟨_, ⟨rfl, ⟨(by first | assumption | omega | (simp <;> done) | (simp <;> omega)), rfl⟩⟩⟩
  · have hl : letters.length = 26 := rfl
    have hn : letters ≠ [] := by decide
    have hc : ∀ c ∈ letters, c.toNat < 128 := by decide
    have hlen := setC_len (inSet letters)
    have ho := oneCells_setC (inSet letters)
    have hz : (List.replicate 256 (Value.bool false)).length = 256 := by simp
    have hr : (s.reverse.dropWhile fun b => inSet letters b.toNat).reverse.length ≤ 1099511627776 := by
      have := (List.dropWhile_sublist (fun b => inSet letters b.toNat) (l := s.reverse)).length_le
      simp at this ⊢
      omega
    refine Trip.of_body Tryz.func48 rfl Tryz.ntmps48 Tryz.results48 rfl ?_
    refine Wsr (Ls (Rdo.assign rfl) (Lnt (Wp.seq (Wsr (Ls (Rdo.move rfl) (Ls (Rdo.eqVs rfl rfl) (Ls (Rdo.move rfl) (Lf rfl rfl (Lw rfl rfl (Rdo.move rfl) (Lw rfl rfl (Rdo.eqVs rfl rfl) (Ls (Rdo.pick_f rfl rfl) (Lnt ?_))))))))))))
    refine Wp.condF rfl ?_
    refine Wp.skip (Thn.n (Wp.seq (Wsr (Ls (Rdo.move rfl) (Ls (Rdo.lenVs rfl) (Ls (Rdo.eqi rfl rfl) (Ls (Rdo.move rfl) (Lp rfl rfl (Lp rfl rfl (Lp rfl rfl (Ls (Rdo.pick_f rfl rfl) (Lnt ?_))))))))))))
    refine Wp.condF rfl ?_
    refine Wp.skip (Thn.n (Wp.seq (Wsr (Ls (Rdo.move rfl) ?_))))
    refine WpL.step (Sc (makeSet_ok _ (by first | rfl | assumption | omega | (simp <;> done) | (simp <;> omega) | (simp [IntKind.bits]; omega) | simp_all) (by first | rfl | assumption | omega | (simp <;> done) | (simp <;> omega) | (simp [IntKind.bits]; omega) | simp_all)) rfl ?_)
    rintro _ _ ⟨rfl, rfl⟩
    refine Ll ?_
    refine Ls (Rdo.move rfl) (Ls (Rdo.extract rfl rfl) (Ls (Rdo.extract rfl rfl) ?_))
    (refine WpL.step (Stp.alloc rfl ?_); intro nb46)
    refine WpL.step (St rfl rfl (VC.ag _) ?_)
    refine Ls (Rdo.assign rfl) (Lnt (Wsr (Ls (Rdo.move rfl) (Lnt ?_))))
    refine Wp.condT rfl ?_
    refine Wsr (Ls (Rdo.move rfl) ?_)
    refine WpL.step (Sc (trimRight_ok _ _ _ _ (by first | rfl | assumption | omega | (simp <;> done) | (simp <;> omega) | (simp [IntKind.bits]; omega) | simp_all)) rfl ?_)
    rintro _ _ ⟨rfl, rfl⟩
    refine Ll ?_
    refine WpL.step (Sc (trimLeft_ok _ _ _ _ (by first | rfl | assumption | omega | (simp <;> done) | (simp <;> omega) | (simp [IntKind.bits]; omega) | simp_all)) rfl ?_)
    rintro _ _ ⟨rfl, rfl⟩
    refine Ll ?_
    refine Ls (Rdo.assign rfl) (Lnt (Wp.ret ?_))
    refine Thn.r ?_
    refine Ret.now (ResV.tmp rfl ResV.nil) (Gh.drop Pk.here) ⟨_, rfl, ?_, rfl⟩
    have hp : (fun b : UInt8 => inSet letters b.toNat) = small := funext inSet_letters
    rw [hp]
    exact trimmed_nil s
end Go.Proofs.YtccgdnocldmjeaaGreatDoor
namespace Go.Proofs.YtccgdnocldmjeaaGreatDoor
open Go
set_option maxHeartbeats 4000000
set_option linter.unusedSimpArgs false
set_option linter.unusedVariables false
set_option maxRecDepth 20000
section
variable {P : Program} {e : Env} {C : List HP} {ty : TypeId}
theorem Rdo.mulE {x y : Operand} {xt yt : TypeId} {p q r : Int} (hx : evl e x = some (.int .i64 p)) (hy : evl e y = some (.int .i64 q)) (h : p * q = r) (hr : -9223372036854775808 ≤ r ∧ r ≤ 9223372036854775807) : Rdo P e C (.binOp .mul xt x y yt) ty (.int .i64 r) := by
  subst h; exact Rdo.mul64 hx hy hr
theorem Rdo.compl {x : Operand} {xt : TypeId} {k : IntKind} {p : Int} (hx : evl e x = some (.int k p)) : Rdo P e C (.unOp .xor xt x) ty (.int k (bits .xor k (if k.signed then -1 else k.max) p)) := by
  unfold Rdo
  intro G w a n dst pos after g hl he
  simp [execOp, he.eval hx, unary_xor, intBits_xor]
end
/-- The cells of an array that is written out, one cell an element. -/
def bldA1 (e : Env) (n : Nat) : List (Nat × Operand) → List Value → Option (List Value)
  | [], cs => some cs
  | (f, x) :: r, cs => match evl e x with
    | some v => if v.oneCell' = true ∧ f < n then bldA1 e n r (cs.set f v) else none
    | none => none
theorem bldA1_fill {e : Env} {n m : Nat} {a : Act} (he : EnvAt m e a) : ∀ {ps : List (Nat × Operand)} {cs cs' : List Value}, cs.length = n → bldA1 e n ps cs = some cs' →
    Instr.fill (fun i => some (i * 1, 1)) cs.toArray (ps.map fun p => (p.1, a.eval p.2)) = some cs'.toArray
  | [], cs, cs', _, h => by
    simp only [bldA1, Option.some.injEq] at h
    subst h
    simp [Instr.fill]
  | (f, x) :: r, cs, cs', hl, h => by
    unfold bldA1 at h
    cases hx : evl e x with
    | none => rw [hx] at h; cases h
    | some v =>
      rw [hx] at h
      simp only at h
      by_cases hc : v.oneCell' = true ∧ f < n
      · rw [if_pos hc] at h
        have ih := bldA1_fill he (by simpa using hl) h
        have hcells : v.cells = #[v] := (VC.one hc.1).cells
        simp only [List.map_cons, Instr.fill, he.eval hx, hcells]
        rw [if_neg (by simp; omega)]
        simpa using ih
      · rw [if_neg hc] at h; cases h
theorem Rdo.bldArr1 {P : Program} {e : Env} {C : List HP} {t ty n e' : Nat} {ps : List (Nat × Operand)} {zs cs : List Value} [hz : ZV P t zs] [ha : AR P t n e'] [hs : SZ P e' 1] (hl : zs.length = n) (hb : bldA1 e n ps zs = some cs) : Rdo P e C (.build t ps.toArray) ty (.agg cs.toArray) := by
  unfold Rdo
  intro G w a m dst pos after g hl' he
  obtain ⟨x, hzr, hzc⟩ := hz.run (w := w)
  have h1 := bldA1_fill he hl hb
  simp only [Nat.mul_one] at h1
  simp [execOp, Instr.build, hzr, run_underlying ha.pf, hs.run, hzc, h1]
abbrev v32 (x : Int) : Value := .int .u32 x
def dTurn (x n : Int) : Int := bits .or .u32 (x / 2 ^ Min.min n.toNat IntKind.u32.bits) (IntKind.u32.wrap (x * 2 ^ Min.min (IntKind.u64.wrap (32 - n)).toNat IntKind.u32.bits))
def dShr (x n : Int) : Int := x / 2 ^ Min.min n.toNat IntKind.u32.bits
def dS0 (x : Int) : Int := bits .xor .u32 (bits .xor .u32 (dTurn x 7) (dTurn x 18)) (dShr x 3)
def dS1 (x : Int) : Int := bits .xor .u32 (bits .xor .u32 (dTurn x 17) (dTurn x 19)) (dShr x 10)
def dB0 (x : Int) : Int := bits .xor .u32 (bits .xor .u32 (dTurn x 2) (dTurn x 13)) (dTurn x 22)
def dB1 (x : Int) : Int := bits .xor .u32 (bits .xor .u32 (dTurn x 6) (dTurn x 11)) (dTurn x 25)
def dNot (x : Int) : Int := bits .xor .u32 (if IntKind.u32.signed then -1 else IntKind.u32.max) x
def dChoose (x y z : Int) : Int := bits .xor .u32 (bits .and .u32 x y) (bits .and .u32 (dNot x) z)
def dMost (x y z : Int) : Int := bits .xor .u32 (bits .xor .u32 (bits .and .u32 x y) (bits .and .u32 x z)) (bits .and .u32 y z)
theorem turn_ok (x n : Int) (hn : 0 ≤ n ∧ n ≤ 32) : Trip Tryz.prog 99 [v32 x, .int .u64 n] [] (fun r l => r = v32 (dTurn x n) ∧ l = []) := by
  have hw : 0 ≤ IntKind.u64.wrap (32 - n) := wrap_u64_nonneg _
  unfold dTurn
  refine Trip.of_body Tryz.func99 rfl Tryz.ntmps99 Tryz.results99 rfl ?_
  refine Wsr (Ls (Rdo.assign rfl) (Lnt (Wsr (Ls (Rdo.move rfl) (Ls (Rdo.move rfl) ?_)))))
  refine Ls (Rdo.shr rfl rfl (by omega)) ?_
  refine Ls (Rdo.move rfl) (Ls (Rdo.move rfl) (Ls (Rdo.sub rfl rfl) ?_))
  refine Ls (Rdo.shl rfl rfl (by omega)) ?_
  refine Ls (Rdo.or rfl rfl) (Ls (Rdo.assign rfl) (Lnt (Wp.ret ?_)))
  refine Rt (ResV.tmp rfl ResV.nil) ⟨rfl, rfl⟩
end Go.Proofs.YtccgdnocldmjeaaGreatDoor
namespace Go.Proofs.YtccgdnocldmjeaaGreatDoor
open Go
set_option maxHeartbeats 4000000
set_option linter.unusedSimpArgs false
set_option linter.unusedVariables false
set_option maxRecDepth 20000
def dK : List Int := [1116352408, 1899447441, 3049323471, 3921009573, 961987163, 1508970993, 2453635748, 2870763221, 3624381080, 310598401, 607225278, 1426881987, 1925078388, 2162078206, 2614888103, 3248222580, 3835390401, 4022224774, 264347078, 604807628, 770255983, 1249150122, 1555081692, 1996064986, 2554220882, 2821834349, 2952996808, 3210313671, 3336571891, 3584528711, 113926993, 338241895, 666307205, 773529912, 1294757372, 1396182291, 1695183700, 1986661051, 2177026350, 2456956037, 2730485921, 2820302411, 3259730800, 3345764771, 3516065817, 3600352804, 4094571909, 275423344, 430227734, 506948616, 659060556, 883997877, 958139571, 1322822218, 1537002063, 1747873779, 1955562222, 2024104815, 2227730452, 2361852424, 2428436474, 2756734187, 3204031479, 3329325298]
theorem numbers_ok : Trip Tryz.prog 62 [] [] (fun r l => r = .agg (dK.map v32).toArray ∧ l = []) := by
  refine Trip.of_body Tryz.func62 rfl Tryz.ntmps62 Tryz.results62 rfl ?_
  refine Wsr ?_
  (refine WpL.step (Stp.alloc rfl ?_); intro nb2)
  refine Lnt (Wsr (Ls (Rdo.bldArr1 rfl rfl) ?_))
  refine WpL.step (St rfl rfl (VC.ag _) ?_)
  refine Lnt (Wp.ret ?_)
  refine Rt (ResV.cell rfl (by repeat (first | exact Lds.one rfl | (apply Lds.all; (first | rfl | assumption | (simp <;> fail))) | exact Lds.ione0 | exact Lds.ione rfl | (apply Lds.iall; (first | rfl | assumption | (simp <;> fail))) | apply Lds.next)) ResV.nil) ⟨rfl, rfl⟩
/-- A word of a block. -/
def dWord (b0 b1 b2 b3 : Int) : Int :=
  bits .or .u32 (bits .or .u32 (bits .or .u32 (IntKind.u32.wrap (IntKind.u32.wrap b0 * 2 ^ Min.min (24 : Int).toNat IntKind.u32.bits)) (IntKind.u32.wrap (IntKind.u32.wrap b1 * 2 ^ Min.min (16 : Int).toNat IntKind.u32.bits))) (IntKind.u32.wrap (IntKind.u32.wrap b2 * 2 ^ Min.min (8 : Int).toNat IntKind.u32.bits))) (IntKind.u32.wrap b3)
def byteI (bs : List UInt8) (i : Nat) : Int := ((bs.getD i 0).toNat : Int)
def dSet1 (bs : List UInt8) (W : List Int) (i : Nat) : List Int := W.set i (dWord (byteI bs (4 * i)) (byteI bs (4 * i + 1)) (byteI bs (4 * i + 2)) (byteI bs (4 * i + 3)))
def dSet2 (W : List Int) (i : Nat) : List Int :=
  W.set i (IntKind.u32.wrap (IntKind.u32.wrap (IntKind.u32.wrap (W.getD (i - 16) 0 + dS0 (W.getD (i - 15) 0)) + W.getD (i - 7) 0) + dS1 (W.getD (i - 2) 0)))
/-- The words so far. -/
def dW1 (bs : List UInt8) : Nat → List Int
  | 0 => List.replicate 64 0
  | i + 1 => dSet1 bs (dW1 bs i) i
def dW2 (bs : List UInt8) : Nat → List Int
  | 0 => dW1 bs 16
  | i + 1 => dSet2 (dW2 bs i) (16 + i)
theorem dW1_len (bs : List UInt8) (i : Nat) : (dW1 bs i).length = 64 := by
  induction i with
  | zero => simp [dW1]
  | succ i ih => simp [dW1, dSet1, ih]
theorem dW2_len (bs : List UInt8) (i : Nat) : (dW2 bs i).length = 64 := by
  induction i with
  | zero => exact dW1_len bs 16
  | succ i ih => simp [dW2, dSet2, ih]
/-- Eight words. -/
structure V8 where
  a : Int
  b : Int
  c : Int
  d : Int
  e : Int
  f : Int
  g : Int
  h : Int
abbrev V8.l (v : V8) : List Int := [v.a, v.b, v.c, v.d, v.e, v.f, v.g, v.h]
abbrev V8.C (v : V8) : List Value := [v32 v.a, v32 v.b, v32 v.c, v32 v.d, v32 v.e, v32 v.f, v32 v.g, v32 v.h]
def dT (v : V8) (k w : Int) : Int := IntKind.u32.wrap (IntKind.u32.wrap (IntKind.u32.wrap (IntKind.u32.wrap (v.h + dB1 v.e) + dChoose v.e v.f v.g) + k) + w)
def dU (v : V8) : Int := IntKind.u32.wrap (dB0 v.a + dMost v.a v.b v.c)
def dRound (v : V8) (k w : Int) : V8 := ⟨IntKind.u32.wrap (dT v k w + dU v), v.a, v.b, v.c, IntKind.u32.wrap (v.d + dT v k w), v.e, v.f, v.g⟩
def dRounds (K W : List Int) (s : V8) : Nat → V8
  | 0 => s
  | i + 1 => dRound (dRounds K W s i) (K.getD i 0) (W.getD i 0)
def dAdd (s v : V8) : V8 := ⟨IntKind.u32.wrap (s.a + v.a), IntKind.u32.wrap (s.b + v.b), IntKind.u32.wrap (s.c + v.c), IntKind.u32.wrap (s.d + v.d), IntKind.u32.wrap (s.e + v.e), IntKind.u32.wrap (s.f + v.f), IntKind.u32.wrap (s.g + v.g), IntKind.u32.wrap (s.h + v.h)⟩
/-- What a block is turned into. -/
def dBlock (K : List Int) (s : V8) (bs : List UInt8) : V8 := dAdd s (dRounds K (dW2 bs 48) s 64)
theorem dW1_zero (bs : List UInt8) : dW1 bs 0 = List.replicate 64 0 := rfl
theorem dW1_succ (bs : List UInt8) (i : Nat) : dW1 bs (i + 1) = dSet1 bs (dW1 bs i) i := rfl
theorem dW2_zero (bs : List UInt8) : dW2 bs 0 = dW1 bs 16 := rfl
theorem dW2_succ (bs : List UInt8) (i : Nat) : dW2 bs (i + 1) = dSet2 (dW2 bs i) (16 + i) := rfl
theorem dRounds_zero (K W : List Int) (s : V8) : dRounds K W s 0 = s := rfl
theorem dRounds_succ (K W : List Int) (s : V8) (i : Nat) : dRounds K W s (i + 1) = dRound (dRounds K W s i) (K.getD i 0) (W.getD i 0) := rfl
attribute [irreducible] dW1 dW2 dRounds
end Go.Proofs.YtccgdnocldmjeaaGreatDoor
namespace Go.Proofs.YtccgdnocldmjeaaGreatDoor
open Go
set_option maxHeartbeats 4000000
set_option linter.unusedSimpArgs false
set_option linter.unusedVariables false
set_option maxRecDepth 20000
theorem s0_ok (x : Int) : Trip Tryz.prog 81 [v32 x] [] (fun r l => r = v32 (dS0 x) ∧ l = []) := by
  have t1 := turn_ok x 7 (by omega)
  have t2 := turn_ok x 18 (by omega)
  unfold dS0 dShr
  refine Trip.of_body Tryz.func81 rfl Tryz.ntmps81 Tryz.results81 rfl ?_
  refine Wsr (Ls (Rdo.assign rfl) (Lnt (Wsr (Ls (Rdo.move rfl) ?_))))
  refine WpL.step (Sc (t1) rfl ?_)
  rintro _ _ ⟨rfl, rfl⟩
  refine Ll ?_
  refine Ls (Rdo.move rfl) ?_
  refine WpL.step (Sc (t2) rfl ?_)
  rintro _ _ ⟨rfl, rfl⟩
  refine Ll ?_
  refine Ls (Rdo.xor rfl rfl) (Ls (Rdo.move rfl) ?_)
  refine Ls (Rdo.shr rfl rfl (by omega)) ?_
  refine Ls (Rdo.xor rfl rfl) (Ls (Rdo.assign rfl) (Lnt (Wp.ret ?_)))
  refine Rt (ResV.tmp rfl ResV.nil) ⟨rfl, rfl⟩
theorem s1_ok (x : Int) : Trip Tryz.prog 82 [v32 x] [] (fun r l => r = v32 (dS1 x) ∧ l = []) := by
  have t1 := turn_ok x 17 (by omega)
  have t2 := turn_ok x 19 (by omega)
  unfold dS1 dShr
  refine Trip.of_body Tryz.func82 rfl Tryz.ntmps82 Tryz.results82 rfl ?_
  refine Wsr (Ls (Rdo.assign rfl) (Lnt (Wsr (Ls (Rdo.move rfl) ?_))))
  refine WpL.step (Sc (t1) rfl ?_)
  rintro _ _ ⟨rfl, rfl⟩
  refine Ll ?_
  refine Ls (Rdo.move rfl) ?_
  refine WpL.step (Sc (t2) rfl ?_)
  rintro _ _ ⟨rfl, rfl⟩
  refine Ll ?_
  refine Ls (Rdo.xor rfl rfl) (Ls (Rdo.move rfl) ?_)
  refine Ls (Rdo.shr rfl rfl (by omega)) ?_
  refine Ls (Rdo.xor rfl rfl) (Ls (Rdo.assign rfl) (Lnt (Wp.ret ?_)))
  refine Rt (ResV.tmp rfl ResV.nil) ⟨rfl, rfl⟩
theorem b0_ok (x : Int) : Trip Tryz.prog 85 [v32 x] [] (fun r l => r = v32 (dB0 x) ∧ l = []) := by
  have t1 := turn_ok x 2 (by omega)
  have t2 := turn_ok x 13 (by omega)
  have t3 := turn_ok x 22 (by omega)
  unfold dB0
  refine Trip.of_body Tryz.func85 rfl Tryz.ntmps85 Tryz.results85 rfl ?_
  refine Wsr (Ls (Rdo.assign rfl) (Lnt (Wsr (Ls (Rdo.move rfl) ?_))))
  refine WpL.step (Sc (t1) rfl ?_)
  rintro _ _ ⟨rfl, rfl⟩
  refine Ll ?_
  refine Ls (Rdo.move rfl) ?_
  refine WpL.step (Sc (t2) rfl ?_)
  rintro _ _ ⟨rfl, rfl⟩
  refine Ll ?_
  refine Ls (Rdo.xor rfl rfl) (Ls (Rdo.move rfl) ?_)
  refine WpL.step (Sc (t3) rfl ?_)
  rintro _ _ ⟨rfl, rfl⟩
  refine Ll ?_
  refine Ls (Rdo.xor rfl rfl) (Ls (Rdo.assign rfl) (Lnt (Wp.ret ?_)))
  refine Rt (ResV.tmp rfl ResV.nil) ⟨rfl, rfl⟩
theorem b1_ok (x : Int) : Trip Tryz.prog 83 [v32 x] [] (fun r l => r = v32 (dB1 x) ∧ l = []) := by
  have t1 := turn_ok x 6 (by omega)
  have t2 := turn_ok x 11 (by omega)
  have t3 := turn_ok x 25 (by omega)
  unfold dB1
  refine Trip.of_body Tryz.func83 rfl Tryz.ntmps83 Tryz.results83 rfl ?_
  refine Wsr (Ls (Rdo.assign rfl) (Lnt (Wsr (Ls (Rdo.move rfl) ?_))))
  refine WpL.step (Sc (t1) rfl ?_)
  rintro _ _ ⟨rfl, rfl⟩
  refine Ll ?_
  refine Ls (Rdo.move rfl) ?_
  refine WpL.step (Sc (t2) rfl ?_)
  rintro _ _ ⟨rfl, rfl⟩
  refine Ll ?_
  refine Ls (Rdo.xor rfl rfl) (Ls (Rdo.move rfl) ?_)
  refine WpL.step (Sc (t3) rfl ?_)
  rintro _ _ ⟨rfl, rfl⟩
  refine Ll ?_
  refine Ls (Rdo.xor rfl rfl) (Ls (Rdo.assign rfl) (Lnt (Wp.ret ?_)))
  refine Rt (ResV.tmp rfl ResV.nil) ⟨rfl, rfl⟩
theorem choose_ok (x y z : Int) : Trip Tryz.prog 84 [v32 x, v32 y, v32 z] [] (fun r l => r = v32 (dChoose x y z) ∧ l = []) := by
  unfold dChoose dNot
  refine Trip.of_body Tryz.func84 rfl Tryz.ntmps84 Tryz.results84 rfl ?_
  refine Wsr (Ls (Rdo.assign rfl) (Lnt (Wsr (Ls (Rdo.move rfl) (Ls (Rdo.move rfl) (Ls (Rdo.and rfl rfl) (Ls (Rdo.move rfl) (Ls (Rdo.compl rfl) (Ls (Rdo.move rfl) (Ls (Rdo.and rfl rfl) (Ls (Rdo.xor rfl rfl) (Ls (Rdo.assign rfl) (Lnt ?_)))))))))))))
  refine Wp.ret ?_
  refine Rt (ResV.tmp rfl ResV.nil) ⟨rfl, rfl⟩
theorem most_ok (x y z : Int) : Trip Tryz.prog 86 [v32 x, v32 y, v32 z] [] (fun r l => r = v32 (dMost x y z) ∧ l = []) := by
  unfold dMost
  refine Trip.of_body Tryz.func86 rfl Tryz.ntmps86 Tryz.results86 rfl ?_
  refine Wsr (Ls (Rdo.assign rfl) (Lnt (Wsr (Ls (Rdo.move rfl) (Ls (Rdo.move rfl) (Ls (Rdo.and rfl rfl) (Ls (Rdo.move rfl) (Ls (Rdo.move rfl) (Ls (Rdo.and rfl rfl) (Ls (Rdo.xor rfl rfl) (Ls (Rdo.move rfl) (Ls (Rdo.move rfl) (Ls (Rdo.and rfl rfl) ?_)))))))))))))
  refine Ls (Rdo.xor rfl rfl) (Ls (Rdo.assign rfl) (Lnt (Wp.ret ?_)))
  refine Rt (ResV.tmp rfl ResV.nil) ⟨rfl, rfl⟩
end Go.Proofs.YtccgdnocldmjeaaGreatDoor
namespace Go.Proofs.YtccgdnocldmjeaaGreatDoor
open Go
set_option maxHeartbeats 4000000
set_option linter.unusedSimpArgs false
set_option linter.unusedVariables false
set_option maxRecDepth 20000
theorem put32 (W : List Int) (i : Nat) (x : Int) (h : i < W.length) : lput (W.map v32) (0 + i * 1) [v32 x] = (W.set i x).map v32 := by
  rw [show 0 + i * 1 = i by omega, lput_step _ _ _ _ (by simpa using h), lput_nil, List.map_set]
theorem at32 (W : List Int) (i : Nat) (h : i < W.length) : (W.map v32)[0 + i * 1]? = some (v32 (W.getD i 0)) := by
  rw [show 0 + i * 1 = i by omega, List.getElem?_map, List.getD_eq_getElem?_getD, List.getElem?_eq_getElem h]
  rfl
theorem byteAt (bs : List UInt8) (i : Nat) (h : i < bs.length) : bs[i]? = some (bs.getD i 0) := by
  rw [List.getD_eq_getElem?_getD, List.getElem?_eq_getElem h]
  rfl
abbrev tkE (s kb nb i : Nat) (v : Value) : Env := [(0, vp s 0), (1, v), (2, vp kb 0), (6, vp nb 0), (14, vi i)]
abbrev tkL (Kl : List Int) (s kb nb : Nat) (S : V8) (v : Value) (bs : List UInt8) (W : List Int) : List HP := [cel nb 127 (W.map v32), cel s 126 S.C, cel kb 127 (Kl.map v32), fz (fun g => RdBytes g v bs)]
def dAddL (s v : List Int) : Nat → List Int
  | 0 => s
  | i + 1 => (dAddL s v i).set i (IntKind.u32.wrap ((dAddL s v i).getD i 0 + v.getD i 0))
theorem dAddL_zero (s v : List Int) : dAddL s v 0 = s := rfl
theorem dAddL_succ (s v : List Int) (i : Nat) : dAddL s v (i + 1) = (dAddL s v i).set i (IntKind.u32.wrap ((dAddL s v i).getD i 0 + v.getD i 0)) := rfl
theorem dAddL_len (s v : List Int) (i : Nat) : (dAddL s v i).length = s.length := by
  induction i with
  | zero => rfl
  | succ i ih => simp [dAddL, ih]
theorem dAddL_end (S V : V8) : dAddL S.l V.l 8 = (dAdd S V).l := rfl
attribute [irreducible] dAddL
abbrev adL (Kl : List Int) (s kb nv : Nat) (V : V8) (v : Value) (bs : List UInt8) (A : List Int) : List HP := [cel s 126 (A.map v32), cel nv 126 V.C, cel kb 127 (Kl.map v32), fz (fun g => RdBytes g v bs)]
theorem take_ok (Kl : List Int) (hKl : Kl.length = 64) (s kb : Nat) (S : V8) (v : Value) (bs : List UInt8) (hl : 64 ≤ bs.length) (hl2 : bs.length ≤ 1099511627776) :
    Trip Tryz.prog 63 [vp s 0, v, vp kb 0] [cel s 126 S.C, cel kb 127 (Kl.map v32), fz (fun g => RdBytes g v bs)]
      (fun r l => r = .tuple #[] ∧ l = [cel s 126 (dBlock Kl S bs).C, cel kb 127 (Kl.map v32), fz (fun g => RdBytes g v bs)]) := by
  refine Trip.get (Pk.next (Pk.next Pk.here)) shape_bytes ?_
  rintro ⟨a, c, rfl⟩
  refine Trip.get (Pk.next (Pk.next Pk.here)) (row_some (by omega)) ?_
  rintro ⟨pb, po, rfl⟩
  refine Trip.of_body Tryz.func63 rfl Tryz.ntmps63 Tryz.results63 rfl ?_
  refine Wsr ?_
  (refine WpL.step (Stp.alloc rfl ?_); intro nb2)
  refine Lnt (Wp.seq (Wsr (Ls (Rdo.move rfl) (Lnt (Wp.block ?_)))))
  refine Wp.loopE (fun k e h => ∃ i : Nat, i + k = 16 ∧ e = tkE s kb nb2 i (.slice (some ⟨pb, po, none⟩) bs.length c) ∧ h = tkL Kl s kb nb2 S (.slice (some ⟨pb, po, none⟩) bs.length c) bs (dW1 bs i)) 16
    (e0 := tkE s kb nb2 0 (.slice (some ⟨pb, po, none⟩) bs.length c)) (l0 := tkL Kl s kb nb2 S (.slice (some ⟨pb, po, none⟩) bs.length c) bs (dW1 bs 0)) (by repeat (first | exact trivial | refine ⟨rfl, ?_⟩)) (by repeat (first | exact trivial | refine ⟨rfl, ?_⟩)) (by simp only [tkL, dW1_zero, List.map_replicate]; exact Gk) ⟨0, by omega, rfl, rfl⟩ ?_
  rintro k e h ⟨i, hik, rfl, rfl⟩
  by_cases hi : i < 16
  · have hi' : (i : Int) < 16 := by omega
    have m1 : (4 : Int) * (i : Int) = ((4 * i : Nat) : Int) := by omega
    have a1 : ((4 * i : Nat) : Int) + 1 = ((4 * i + 1 : Nat) : Int) := by omega
    have a2 : ((4 * i : Nat) : Int) + 2 = ((4 * i + 2 : Nat) : Int) := by omega
    have a3 : ((4 * i : Nat) : Int) + 3 = ((4 * i + 3 : Nat) : Int) := by omega
    have b0 := byteAt bs (4 * i) (by omega)
    have b1 := byteAt bs (4 * i + 1) (by omega)
    have b2 := byteAt bs (4 * i + 2) (by omega)
    have b3 := byteAt bs (4 * i + 3) (by omega)
    have hlen := dW1_len bs i
    refine Wsr (Ls (Rdo.lti rfl rfl) (Lnt (Wp.seq (cK rfl (Wp.skip (Thn.n (Wp.seq (Wp.block (Wsr (Ls (Rdo.move rfl) (Ls (Rdo.assign rfl) (Lnt ?_))))))))))))
    refine Wp.draw (by kernel_rfl) ?_
    refine Qt (i := 0) rfl (Rdo.move rfl) (Qt (i := 1) rfl (Rdo.move rfl) (Qt (i := 2) rfl (Rdo.move rfl) ?_))
    refine Qt (i := 3) rfl (Rdo.mulE rfl rfl (by assumption) (by omega)) ?_
    refine Qt (i := 4) rfl (Rdo.indexSlice rfl rfl (by omega)) ?_
    refine Qt (i := 8) rfl (Rdo.move rfl) (Qt (i := 9) rfl (Rdo.move rfl) ?_)
    refine Qt (i := 10) rfl (Rdo.mulE rfl rfl (by assumption) (by omega)) ?_
    refine Qt (i := 11) rfl (Rdo.addE rfl rfl (by assumption) (by omega)) ?_
    refine Qt (i := 12) rfl (Rdo.indexSlice rfl rfl (by omega)) ?_
    refine Qt (i := 17) rfl (Rdo.move rfl) (Qt (i := 18) rfl (Rdo.move rfl) ?_)
    refine Qt (i := 19) rfl (Rdo.mulE rfl rfl (by assumption) (by omega)) ?_
    refine Qt (i := 20) rfl (Rdo.addE rfl rfl (by assumption) (by omega)) ?_
    refine Qt (i := 21) rfl (Rdo.indexSlice rfl rfl (by omega)) ?_
    refine Qt (i := 26) rfl (Rdo.move rfl) (Qt (i := 27) rfl (Rdo.move rfl) ?_)
    refine Qt (i := 28) rfl (Rdo.mulE rfl rfl (by assumption) (by omega)) ?_
    refine Qt (i := 29) rfl (Rdo.addE rfl rfl (by assumption) (by omega)) ?_
    refine Qt (i := 30) rfl (Rdo.indexSlice rfl rfl (by omega)) ?_
    refine WpR.phaseL (m := 1) #[true, true, true, true, true, true, true, true, true, true, true, true, true, true, true, true, true, true, true, true, true, true, true, true, true, true, true, true, true, true, true, true, true, true, true, false] 15 _ rfl (by kernel_rfl) (Tk.cons (Pk.next (Pk.next (Pk.next Pk.here))) Tk.nil) ?_
    refine At (i := 5) rfl (Rdo.load rfl (Lds.fz1 (by first | assumption | exact bytesC_at (by assumption) | exact intsC_at (by assumption) | exact boolsC_at (by assumption)))) ?_
    refine At (i := 6) rfl (Rdo.convInt rfl) ?_
    refine At (i := 7) rfl (Rdo.shl rfl rfl (by omega)) ?_
    refine At (i := 13) rfl (Rdo.load rfl (Lds.fz1 (by first | assumption | exact bytesC_at (by assumption) | exact intsC_at (by assumption) | exact boolsC_at (by assumption)))) ?_
    refine At (i := 14) rfl (Rdo.convInt rfl) ?_
    refine At (i := 15) rfl (Rdo.shl rfl rfl (by omega)) ?_
    refine At (i := 16) rfl (Rdo.or rfl rfl) ?_
    refine At (i := 22) rfl (Rdo.load rfl (Lds.fz1 (by first | assumption | exact bytesC_at (by assumption) | exact intsC_at (by assumption) | exact boolsC_at (by assumption)))) ?_
    refine At (i := 23) rfl (Rdo.convInt rfl) ?_
    refine At (i := 24) rfl (Rdo.shl rfl rfl (by omega)) ?_
    refine At (i := 25) rfl (Rdo.or rfl rfl) ?_
    refine At (i := 31) rfl (Rdo.load rfl (Lds.fz1 (by first | assumption | exact bytesC_at (by assumption) | exact intsC_at (by assumption) | exact boolsC_at (by assumption)))) ?_
    refine At (i := 32) rfl (Rdo.convInt rfl) (At (i := 33) rfl (Rdo.or rfl rfl) ?_)
    refine At (i := 34) rfl (Rdo.indexArr rfl rfl (by omega)) ?_
    refine WpA.stop (by kernel_rfl) ?_
    refine Ql ?_
    refine Qo (i := 35) rfl (Stp.storeV rfl rfl (VC.i _ _) rfl (Sts.next (Sts.here (oneCells1 rfl) ?_)) ?_)
    · simp only [List.length_map, List.length_cons, List.length_nil, hlen]; omega
    rw [put32 _ _ _ (by omega)]
    refine WpR.gh (l' := tkL Kl s kb nb2 S (.slice (some ⟨pb, po, none⟩) bs.length c) bs (dW1 bs (i + 1))) (by rw [dW1_succ]; exact Gk) ?_
    refine WpR.done (by kernel_rfl) ?_
    refine Blk.n (Thn.n (Wp.region ?_))
    refine Ls (Rdo.succ rfl rfl (by omega)) ?_
    refine Ls (Rdo.move rfl) (Lnt ?_)
    exact ⟨k - 1, _, _, by omega, ⟨i + 1, by omega, rfl, rfl⟩, (by repeat (first | exact trivial | refine ⟨rfl, ?_⟩)), Gk⟩
  · obtain rfl : i = 16 := by omega
    refine Wsr (Ls (Rdo.lti rfl rfl) (Lnt (Wp.seq ?_)))
    refine Wp.condF rfl ?_
    refine Wp.exit ?_
    refine Thn.x ?_
    refine Thn.x ?_
    refine Blk.here ?_
    refine Thn.n (Wp.seq (Wsr (Ls (Rdo.assign rfl) (Lnt (Wp.block ?_)))))
    refine Wp.loopE (fun k e h => ∃ j : Nat, j + k = 48 ∧ e = [(0, vp s 0), (2, vp kb 0), (6, vp nb2 0), (8, vi ((16 + j : Nat) : Int))] ∧ h = tkL Kl s kb nb2 S (.slice (some ⟨pb, po, none⟩) bs.length c) bs (dW2 bs j)) 48
      (e0 := [(0, vp s 0), (2, vp kb 0), (6, vp nb2 0), (8, vi ((16 + 0 : Nat) : Int))]) (l0 := tkL Kl s kb nb2 S (.slice (some ⟨pb, po, none⟩) bs.length c) bs (dW2 bs 0)) (by repeat (first | exact trivial | refine ⟨rfl, ?_⟩)) (by repeat (first | exact trivial | refine ⟨rfl, ?_⟩)) (by simp only [tkL, dW2_zero]; exact Gk) ⟨0, by omega, rfl, rfl⟩ ?_
    rintro k e h ⟨j, hjk, rfl, rfl⟩
    by_cases hj : j < 48
    · have hj' : ((16 + j : Nat) : Int) < 64 := by omega
      have hlen := dW2_len bs j
      have n1 : ((16 + j : Nat) : Int) - 16 = ((16 + j - 16 : Nat) : Int) := by omega
      have n2 : ((16 + j : Nat) : Int) - 15 = ((16 + j - 15 : Nat) : Int) := by omega
      have n3 : ((16 + j : Nat) : Int) - 7 = ((16 + j - 7 : Nat) : Int) := by omega
      have n4 : ((16 + j : Nat) : Int) - 2 = ((16 + j - 2 : Nat) : Int) := by omega
      have w1 := at32 (dW2 bs j) (16 + j - 16) (by omega)
      have w2 := at32 (dW2 bs j) (16 + j - 15) (by omega)
      have w3 := at32 (dW2 bs j) (16 + j - 7) (by omega)
      have w4 := at32 (dW2 bs j) (16 + j - 2) (by omega)
      have c1 := s0_ok ((dW2 bs j).getD (16 + j - 15) 0)
      have c2 := s1_ok ((dW2 bs j).getD (16 + j - 2) 0)
      refine Wp.seq (Wsr (Ls (Rdo.move rfl) (Ls (Rdo.lti rfl rfl) (Lnt (cK rfl (Wp.skip (Thn.n (Wp.seq (Wp.block ?_)))))))))
      refine Wp.draw (by kernel_rfl) ?_
      refine Qt (i := 0) rfl (Rdo.move rfl) (Qt (i := 1) rfl (Rdo.move rfl) ?_)
      refine Qt (i := 2) rfl (Rdo.subE rfl rfl (by assumption) (by omega)) ?_
      refine Qt (i := 3) rfl (Rdo.indexArr rfl rfl (by omega)) ?_
      refine Qt (i := 5) rfl (Rdo.move rfl) ?_
      refine Qt (i := 6) rfl (Rdo.subE rfl rfl (by assumption) (by omega)) ?_
      refine Qt (i := 7) rfl (Rdo.indexArr rfl rfl (by omega)) ?_
      refine Qt (i := 11) rfl (Rdo.move rfl) ?_
      refine Qt (i := 12) rfl (Rdo.subE rfl rfl (by assumption) (by omega)) ?_
      refine Qt (i := 13) rfl (Rdo.indexArr rfl rfl (by omega)) ?_
      refine Qt (i := 16) rfl (Rdo.move rfl) ?_
      refine Qt (i := 17) rfl (Rdo.subE rfl rfl (by assumption) (by omega)) ?_
      refine Qt (i := 18) rfl (Rdo.indexArr rfl rfl (by omega)) ?_
      refine WpR.phaseL (m := 1) #[true, true, true, true, true, true, true, true, true, true, true, true, true, true, true, true, true, true, true, true, true, true, true, false] 10 _ rfl (by kernel_rfl) (Tk.cons Pk.here Tk.nil) ?_
      refine At (i := 4) rfl (Rdo.load rfl (Lds.one (by assumption))) ?_
      refine At (i := 8) rfl (Rdo.load rfl (Lds.one (by assumption))) ?_
      refine At (i := 14) rfl (Rdo.load rfl (Lds.one (by assumption))) ?_
      refine At (i := 19) rfl (Rdo.load rfl (Lds.one (by assumption))) ?_
      refine WpA.one (i := 9) rfl (by kernel_rfl) (Sc (c1) rfl ?_)
      rintro _ _ ⟨rfl, rfl⟩
      refine WpA.lst (by simp only [List.cons_append, List.nil_append]; exact rfl) ?_
      refine At (i := 10) rfl (Rdo.add rfl rfl) (At (i := 15) rfl (Rdo.add rfl rfl) ?_)
      refine WpA.one (i := 20) rfl (by kernel_rfl) (Sc (c2) rfl ?_)
      rintro _ _ ⟨rfl, rfl⟩
      refine WpA.lst (by simp only [List.cons_append, List.nil_append]; exact rfl) ?_
      refine At (i := 21) rfl (Rdo.add rfl rfl) ?_
      refine At (i := 22) rfl (Rdo.indexArr rfl rfl (by omega)) ?_
      refine WpA.stop (by kernel_rfl) ?_
      refine Ql ?_
      refine Qo (i := 23) rfl (Stp.storeV rfl rfl (VC.i _ _) rfl (Sts.here (oneCells1 rfl) ?_) ?_)
      · simp only [List.length_map, List.length_cons, List.length_nil, hlen]; omega
      rw [put32 _ _ _ (by omega)]
      refine WpR.gh (l' := tkL Kl s kb nb2 S (.slice (some ⟨pb, po, none⟩) bs.length c) bs (dW2 bs (j + 1))) (by rw [dW2_succ]; exact Gk) ?_
      refine WpR.done (by kernel_rfl) ?_
      refine Blk.n (Thn.n (Wp.region (Ls (Rdo.move rfl) ?_)))
      refine Ls (Rdo.succ rfl rfl (by omega)) ?_
      refine Ls (Rdo.assign rfl) (Lnt ?_)
      exact ⟨k - 1, _, _, by omega, ⟨j + 1, by omega, rfl, rfl⟩, (by repeat (first | exact trivial | refine ⟨rfl, ?_⟩)), Gk⟩
    · obtain rfl : j = 48 := by omega
      refine Wp.seq (Wsr (Ls (Rdo.move rfl) (Ls (Rdo.lti rfl rfl) (Lnt ?_))))
      refine Wp.condF rfl ?_
      refine Wp.exit ?_
      refine Thn.x ?_
      refine Thn.x ?_
      refine Blk.here ?_
      refine Thn.n (Wsr (Ls (Rdo.move rfl) (Ls (Rdo.nilCheck rfl) ?_)))
      refine Ls (Rdo.load rfl (Lds.next Ld)) ?_
      (refine WpL.step (Stp.alloc rfl ?_); intro nb18)
      refine WpL.step (St rfl rfl (VC.ag _) ?_)
      refine Lnt (Wp.seq (Wsr (Ls (Rdo.move rfl) (Lnt (Wp.block ?_)))))
      generalize hW : dW2 bs 48 = W at *
      have hWl : W.length = 64 := by rw [← hW]; exact dW2_len bs 48
      refine Wp.loopE (fun k e h => ∃ m : Nat, m + k = 64 ∧ e = [(0, vp s 0), (2, vp kb 0), (6, vp nb2 0), (9, vp nb18 0), (83, vi m)] ∧ h = cel nb18 126 (dRounds Kl W S m).C :: tkL Kl s kb nb2 S (.slice (some ⟨pb, po, none⟩) bs.length c) bs W) 64
        (e0 := [(0, vp s 0), (2, vp kb 0), (6, vp nb2 0), (9, vp nb18 0), (83, vi (0 : Nat))]) (l0 := cel nb18 126 (dRounds Kl W S 0).C :: tkL Kl s kb nb2 S (.slice (some ⟨pb, po, none⟩) bs.length c) bs W) (by repeat (first | exact trivial | refine ⟨rfl, ?_⟩)) (by repeat (first | exact trivial | refine ⟨rfl, ?_⟩)) (by rw [dRounds_zero]; exact Gk) ⟨0, by omega, rfl, rfl⟩ ?_
      rintro k e h ⟨m, hmk, rfl, rfl⟩
      by_cases hm : m < 64
      · have hm' : (m : Int) < 64 := by omega
        have w1 := at32 W m (by omega)
        have w2 := at32 Kl m (by omega)
        have hdr : dRounds Kl W S (m + 1) = dRound (dRounds Kl W S m) (Kl.getD m 0) (W.getD m 0) := dRounds_succ _ _ _ _
        generalize dRounds Kl W S m = V at *
        have c1 := b1_ok V.e
        have c2 := choose_ok V.e V.f V.g
        have c3 := b0_ok V.a
        have c4 := most_ok V.a V.b V.c
        refine Wsr (Ls (Rdo.lti rfl rfl) (Lnt (Wp.seq (cK rfl (Wp.skip (Thn.n (Wp.seq (Wp.block (Wsr (Ls (Rdo.move rfl) (Ls (Rdo.assign rfl) (Lnt (Wp.seq ?_)))))))))))))
        refine Wp.draw (by kernel_rfl) ?_
        refine Qt (i := 0) rfl (Rdo.indexArrE (i := 7) rfl rfl rfl (by first | omega | (simp <;> omega))) ?_
        refine Qt (i := 2) rfl (Rdo.indexArrE (i := 4) rfl rfl rfl (by first | omega | (simp <;> omega))) ?_
        refine Qt (i := 6) rfl (Rdo.indexArrE (i := 4) rfl rfl rfl (by first | omega | (simp <;> omega))) ?_
        refine Qt (i := 8) rfl (Rdo.indexArrE (i := 5) rfl rfl rfl (by first | omega | (simp <;> omega))) ?_
        refine Qt (i := 10) rfl (Rdo.indexArrE (i := 6) rfl rfl rfl (by first | omega | (simp <;> omega))) ?_
        refine Qt (i := 14) rfl (Rdo.move rfl) (Qt (i := 15) rfl (Rdo.move rfl) (Qt (i := 16) rfl (Rdo.nilCheck rfl) ?_))
        refine Qt (i := 17) rfl (Rdo.indexArr rfl rfl (by omega)) ?_
        refine Qt (i := 20) rfl (Rdo.move rfl) ?_
        refine Qt (i := 21) rfl (Rdo.indexArr rfl rfl (by omega)) ?_
        refine WpR.phaseL (m := 0) #[true, true, true, true, true, true, true, true, true, true, true, true, true, true, true, true, true, true, true, true, true, true, true, true, true] 14 _ rfl (by kernel_rfl) (Tk.cons Pk.here (Tk.cons Pk.here (Tk.cons (Pk.next Pk.here) Tk.nil))) ?_
        refine At (i := 1) rfl (Rdo.load rfl (Lds.one rfl)) (At (i := 3) rfl (Rdo.load rfl (Lds.one rfl)) (At (i := 7) rfl (Rdo.load rfl (Lds.one rfl)) (At (i := 9) rfl (Rdo.load rfl (Lds.one rfl)) (At (i := 11) rfl (Rdo.load rfl (Lds.one rfl)) ?_))))
        refine At (i := 18) rfl (Rdo.load rfl (Lds.next (Lds.next (Lds.one (by assumption))))) ?_
        refine At (i := 22) rfl (Rdo.load rfl (Lds.next (Lds.one (by assumption)))) ?_
        refine WpA.one (i := 4) rfl (by kernel_rfl) (Sc (c1) rfl ?_)
        rintro _ _ ⟨rfl, rfl⟩
        refine WpA.lst (by simp only [List.cons_append, List.nil_append]; exact rfl) ?_
        refine At (i := 5) rfl (Rdo.add rfl rfl) ?_
        refine WpA.one (i := 12) rfl (by kernel_rfl) (Sc (c2) rfl ?_)
        rintro _ _ ⟨rfl, rfl⟩
        refine WpA.lst (by simp only [List.cons_append, List.nil_append]; exact rfl) ?_
        refine At (i := 13) rfl (Rdo.add rfl rfl) (At (i := 19) rfl (Rdo.add rfl rfl) (At (i := 23) rfl (Rdo.add rfl rfl) (At (i := 24) rfl (Rdo.assign rfl) ?_)))
        refine WpA.stop (by kernel_rfl) ?_
        refine Ql ?_
        refine WpR.done (by kernel_rfl) ?_
        refine Thn.n (Wp.seq ?_)
        refine Wp.draw (by kernel_rfl) ?_
        refine Qt (i := 0) rfl (Rdo.indexArrE (i := 0) rfl rfl rfl (by first | omega | (simp <;> omega))) ?_
        refine Qt (i := 3) rfl (Rdo.indexArrE (i := 0) rfl rfl rfl (by first | omega | (simp <;> omega))) ?_
        refine Qt (i := 5) rfl (Rdo.indexArrE (i := 1) rfl rfl rfl (by first | omega | (simp <;> omega))) ?_
        refine Qt (i := 7) rfl (Rdo.indexArrE (i := 2) rfl rfl rfl (by first | omega | (simp <;> omega))) ?_
        refine WpR.load (i := 1) [4, 6, 8] rfl (by kernel_rfl) (by kernel_rfl) (by kernel_rfl) (by kernel_rfl) (by kernel_rfl) rfl Tk.rfl_ (Harm.rd rfl (Rdo.load rfl (Lds.one rfl)) (Harm.rd rfl (Rdo.load rfl (Lds.one rfl)) (Harm.rd rfl (Rdo.load rfl (Lds.one rfl)) Harm.nil))) (Rdo.load rfl (Lds.one rfl)) rfl ?_
        refine WpR.phaseL (m := 0) #[true, true, true, true, true, true, true, true, true, true, true, true] 7 _ rfl (by kernel_rfl) (Tk.cons Pk.here Tk.nil) ?_
        refine At (i := 4) rfl (Rdo.load rfl (Lds.one rfl)) (At (i := 6) rfl (Rdo.load rfl (Lds.one rfl)) (At (i := 8) rfl (Rdo.load rfl (Lds.one rfl)) ?_))
        refine WpA.one (i := 2) rfl (by kernel_rfl) (Sc (c3) rfl ?_)
        rintro _ _ ⟨rfl, rfl⟩
        refine WpA.lst (by simp only [List.cons_append, List.nil_append]; exact rfl) ?_
        refine WpA.one (i := 9) rfl (by kernel_rfl) (Sc (c4) rfl ?_)
        rintro _ _ ⟨rfl, rfl⟩
        refine WpA.lst (by simp only [List.cons_append, List.nil_append]; exact rfl) ?_
        refine At (i := 10) rfl (Rdo.add rfl rfl) (At (i := 11) rfl (Rdo.assign rfl) ?_)
        refine WpA.stop (by kernel_rfl) ?_
        refine Ql ?_
        refine WpR.done (by kernel_rfl) ?_
        refine Thn.n (Wp.region (Ls (Rdo.move rfl) (Ls (Rdo.move rfl) (Ls (Rdo.add rfl rfl) ?_))))
        refine Ls (Rdo.indexArrE (i := 0) rfl rfl rfl (by first | omega | (simp <;> omega))) ?_
        refine Ls (Rdo.load rfl (Lds.one rfl)) ?_
        refine Ls (Rdo.indexArrE (i := 1) rfl rfl rfl (by first | omega | (simp <;> omega))) ?_
        refine Ls (Rdo.load rfl (Lds.one rfl)) ?_
        refine Ls (Rdo.indexArrE (i := 2) rfl rfl rfl (by first | omega | (simp <;> omega))) ?_
        refine Ls (Rdo.load rfl (Lds.one rfl)) ?_
        refine Ls (Rdo.indexArrE (i := 3) rfl rfl rfl (by first | omega | (simp <;> omega))) ?_
        refine Ls (Rdo.load rfl (Lds.one rfl)) (Ls (Rdo.move rfl) (Ls (Rdo.add rfl rfl) ?_))
        refine Ls (Rdo.indexArrE (i := 4) rfl rfl rfl (by first | omega | (simp <;> omega))) ?_
        refine Ls (Rdo.load rfl (Lds.one rfl)) ?_
        refine Ls (Rdo.indexArrE (i := 5) rfl rfl rfl (by first | omega | (simp <;> omega))) ?_
        refine Ls (Rdo.load rfl (Lds.one rfl)) ?_
        refine Ls (Rdo.indexArrE (i := 6) rfl rfl rfl (by first | omega | (simp <;> omega))) ?_
        refine Ls (Rdo.load rfl (Lds.one rfl)) (Ls (Rdo.bldArr1 rfl rfl) ?_)
        refine WpL.step (St rfl rfl (VC.ag _) ?_)
        refine WpL.nil (Blk.n (Thn.n (Wp.region ?_)))
        refine Ls (Rdo.succ rfl rfl (by omega)) ?_
        refine Ls (Rdo.move rfl) (Lnt ?_)
        exact ⟨k - 1, _, _, by omega, ⟨m + 1, by omega, rfl, rfl⟩, (by repeat (first | exact trivial | refine ⟨rfl, ?_⟩)), by rw [hdr]; exact Gk⟩
      · obtain rfl : m = 64 := by omega
        refine Wsr (Ls (Rdo.lti rfl rfl) (Lnt (Wp.seq ?_)))
        refine Wp.condF rfl ?_
        refine Wp.exit ?_
        refine Thn.x ?_
        refine Thn.x ?_
        refine Blk.here ?_
        refine Thn.n (Wsr (Ls (Rdo.move rfl) (Lnt (Wp.block ?_))))
        have hend : dBlock Kl S bs = dAdd S (dRounds Kl W S 64) := by rw [← hW]; rfl
        rw [hend]
        clear hend hW
        generalize dRounds Kl W S 64 = V at *
        refine Wp.loopE (fun k e h => ∃ i : Nat, i + k = 8 ∧ e = [(0, vp s 0), (9, vp nb18 0), (142, vi i)] ∧ h = adL Kl s kb nb18 V (.slice (some ⟨pb, po, none⟩) bs.length c) bs (dAddL S.l V.l i)) 8
          (e0 := [(0, vp s 0), (9, vp nb18 0), (142, vi (0 : Nat))]) (l0 := adL Kl s kb nb18 V (.slice (some ⟨pb, po, none⟩) bs.length c) bs (dAddL S.l V.l 0)) (by repeat (first | exact trivial | refine ⟨rfl, ?_⟩)) (by repeat (first | exact trivial | refine ⟨rfl, ?_⟩)) (by rw [dAddL_zero]; exact Gk) ⟨0, by omega, rfl, rfl⟩ ?_
        rintro k e h ⟨i, hik, rfl, rfl⟩
        by_cases hi : i < 8
        · have hi' : (i : Int) < 8 := by omega
          have hlen := dAddL_len S.l V.l i
          have w1 := at32 (dAddL S.l V.l i) i (by rw [hlen]; exact hi)
          have w2 : V.C[0 + i * 1]? = some (v32 (V.l.getD i 0)) := at32 V.l i hi
          refine Wsr (Ls (Rdo.lti rfl rfl) (Lnt (Wp.seq (cK rfl (Wp.skip (Thn.n (Wp.seq (Wp.block (Wsr (Ls (Rdo.move rfl) (Ls (Rdo.assign rfl) (Lnt ?_))))))))))))
          refine Wp.draw (by kernel_rfl) ?_
          refine Qt (i := 0) rfl (Rdo.move rfl) (Qt (i := 1) rfl (Rdo.move rfl) (Qt (i := 2) rfl (Rdo.nilCheck rfl) ?_))
          refine Qt (i := 3) rfl (Rdo.indexArr rfl rfl (by omega)) ?_
          refine Qt (i := 5) rfl (Rdo.move rfl) ?_
          refine Qt (i := 6) rfl (Rdo.indexArr rfl rfl (by omega)) ?_
          refine Qt (i := 9) rfl (Rdo.nilCheck rfl) ?_
          refine WpR.phaseL (m := 3) #[true, true, true, true, true, true, true, true, false, true, false, false] 2 _ rfl (by kernel_rfl) Tk.rfl_ ?_
          refine At (i := 4) rfl (Rdo.load rfl (Lds.one (by assumption))) ?_
          refine At (i := 7) rfl (Rdo.load rfl (Lds.next (Lds.one (by assumption)))) ?_
          refine WpA.stop (by kernel_rfl) ?_
          refine WpR.lst (by simp only [List.cons_append, List.nil_append, List.append_nil]; exact rfl) ?_
          refine Qt (i := 8) rfl (Rdo.add rfl rfl) ?_
          refine Qt (i := 10) rfl (Rdo.indexArr rfl rfl (by omega)) ?_
          refine Qo (i := 11) rfl (Stp.storeV rfl rfl (VC.i _ _) rfl (Sts.here (oneCells1 rfl) ?_) ?_)
          · simp only [List.length_map, List.length_cons, List.length_nil, hlen]; omega
          rw [put32 _ _ _ (by rw [hlen]; exact hi), ← dAddL_succ]
          refine WpR.done (by kernel_rfl) ?_
          refine Blk.n (Thn.n (Wp.region ?_))
          refine Ls (Rdo.succ rfl rfl (by omega)) ?_
          refine Ls (Rdo.move rfl) (Lnt ?_)
          exact ⟨k - 1, _, _, by omega, ⟨i + 1, by omega, rfl, rfl⟩, (by repeat (first | exact trivial | refine ⟨rfl, ?_⟩)), Gk⟩
        · obtain rfl : i = 8 := by omega
          rw [dAddL_end]
          refine Wsr (Ls (Rdo.lti rfl rfl) (Lnt (Wp.seq ?_)))
          refine Wp.condF rfl ?_
          refine Wp.exit ?_
          refine Thn.x ?_
          refine Thn.x ?_
          refine Blk.here ?_
          refine Ret.end_ ResV.nil Gk ⟨rfl, rfl⟩
end Go.Proofs.YtccgdnocldmjeaaGreatDoor
namespace Go.Proofs.YtccgdnocldmjeaaGreatDoor
open Go
set_option maxHeartbeats 4000000
set_option linter.unusedSimpArgs false
set_option linter.unusedVariables false
set_option maxRecDepth 20000
theorem AR.at {P : Program} {t n e' : Nat} (h : AR P t n e') : P.underlying t = some (.array (P.arrayLen t) (P.elem t)) ∧ P.arrayLen t = n ∧ P.elem t = e' := by
  have h1 := h.pf
  have h2 : P.arrayLen t = n := by simp [Program.arrayLen, h1]
  have h3 : P.elem t = e' := by simp [Program.elem, h1]
  exact ⟨by rw [h2, h3]; exact h1, h2, h3⟩
section
variable {P : Program} {e : Env} {C : List HP} {t ty n e' s : Nat} {x lo : Operand} {b o : Nat} {k : IntKind} {li : Int}
theorem Rdo.slArr [ht : AR P t n e'] [hs : SZ P e' s] (hx : evl e x = some (.pointer (some ⟨b, o, none⟩))) : Rdo P e C (.slice t x none none none) ty (.slice (some ⟨b, o, none⟩) n n) := by
  unfold Rdo
  intro G w a n' dst pos after g hG he
  obtain ⟨h1, h2, h3⟩ := ht.at
  have hsz := hs.run (w := w)
  rw [← h3] at hsz
  simp only [execOp, he.eval hx, Option.map_none, Sem.run_bind]
  rw [run_sliceAt_array_all w t ⟨b, o, none⟩ h1, hsz]
  simp [slicedAt, h2, addr_add]
theorem Rdo.slArr_l (l : Nat) [ht : AR P t n e'] [hs : SZ P e' s] (hx : evl e x = some (.pointer (some ⟨b, o, none⟩))) (hl : evl e lo = some (.int k li)) (hli : li = l) (h : l ≤ n) : Rdo P e C (.slice t x (some lo) none none) ty (.slice (some (slA b o l n s)) (n - l) (n - l)) := by
  unfold Rdo
  intro G w a n' dst pos after g hG he
  subst hli
  obtain ⟨h1, h2, h3⟩ := ht.at
  have hsz := hs.run (w := w)
  rw [← h3] at hsz
  simp only [execOp, he.eval hx, he.eval hl, Option.map_some, Option.map_none, Sem.run_bind]
  rw [run_sliceAt_array_l w t ⟨b, o, none⟩ h1 k (l : Int) (by omega) (by omega), hsz]
  simp only [Result.andThen_ok, Sem.run_pure, Int.toNat_natCast, slicedAt, slA, h2, addr_add]
end
/-- An element of an array that is a value. -/
theorem Rdo.indexAgg1 {P : Program} {e : Env} {C : List HP} {t ty n e' i : Nat} {x y : Operand} {k : IntKind} {cs : List Value} {v : Value} [h : AR P t n e'] [hs : SZ P e' 1] [ha : AG P e' false] (hx : evl e x = some (.agg cs.toArray)) (hy : evl e y = some (.int k i)) (hi : i < n) (hv : cs[i]? = some v) : Rdo P e C (.index t x y) ty v := by
  have key : ∀ w, (Instr.index t (.agg cs.toArray) (.int k i)).run P w = .ok v w := by
    intro w
    have h0 : (0 : Int) ≤ (i : Int) ∧ (i : Int) < n := by omega
    simp [Instr.index, asIntOf, run_underlying h.pf, h0, hs.run, part, ha.run, hv]
    omega
  unfold Rdo
  intro G w a n' dst pos after g hl he
  simp [execOp, he.eval hx, he.eval hy, key]
/-- copy of a whole source. -/
theorem Stp.copyAll {P : Program} {n d : Nat} {x y : Operand} {t xt ty e' m dLen dCap : Nat} {pos : String} {after : Array Edge} {g : Option (Nat × Bool)} {e : Env} {l l' : List HP} {Φ : Env → List HP → Prop} {a : Addr} {u : Value} {news : List Value}
    [ht : EL P t e'] [hz : SZ P e' 1] (hx : evl e x = some (.slice (some a) dLen dCap)) (hy : evl e y = some u) (hs : Src P l 1 u m news) (hm : m ≤ dLen) (hst : Sts P l a news l') (hd : Nat.blt d n = true)
    (hk : Φ (eset e d (.int .i64 m)) l') :
    Stp P n ⟨some d, .call { callee := .builtin .copy, args := [x, y].toArray, argTypes := [t, xt].toArray }, ty, pos, after, g⟩ e l Φ := by
  unfold Stp
  intro F w a' ds hl he K Q0 hK
  unfold Src at hs
  unfold Sts at hst
  obtain ⟨h1, h2⟩ := hs F w hl
  obtain ⟨w', hr, hh, hxt⟩ := hst F w hl
  unfold OpW
  have hmin : Nat.min m dLen = m := Nat.min_eq_left hm
  have hrun : (Builtin.copy_ #[t, xt] ty #[.slice (some a) dLen dCap, u]).run P w = .ok (goInt m) w' := by
    simp [Builtin.copy_, run_underlying ht.pf, h1, hmin, hz.run, h2, hr]
  have e1 : (execOp a'.eval ⟨some d, .call { callee := .builtin .copy, args := [x, y].toArray, argTypes := [t, xt].toArray }, ty, pos, after, g⟩).run P w = .ok (.value (goInt m)) w' := by
    simp [execOp, resolve, invoke, builtin, he.eval hx, he.eval hy, hrun]
  rw [e1]
  exact hK _ _ _ _ (he.put _ hd) hh hxt hk
end Go.Proofs.YtccgdnocldmjeaaGreatDoor
namespace Go.Proofs.YtccgdnocldmjeaaGreatDoor
open Go
set_option maxHeartbeats 4000000
set_option linter.unusedSimpArgs false
set_option linter.unusedVariables false
set_option maxRecDepth 20000
/-- A piece of frozen bytes. -/
theorem RdBytes.drop_ {g : FH} {b o n cap l : Nat} {bs : List UInt8} (h : RdBytes g (.slice (some ⟨b, o, none⟩) n cap) bs) (hl : l ≤ n) (hc : n ≤ cap) : RdBytes g (.slice (some (slA b o l cap 1)) (n - l) (cap - l)) (bs.drop l) := by
  obtain ⟨h1, a, c, h2, h3⟩ := h
  simp only [Value.slice.injEq] at h2
  obtain ⟨h21, h22, h23⟩ := h2
  subst h21 h22 h23
  refine ⟨by simp [bytesC], some (slA b o l cap 1), cap - l, by simp, ?_⟩
  by_cases h0 : (bs.drop l).length = 0
  · exact .inl h0
  right
  rcases h3 with h3 | ⟨b', o', h4, arr, t, fr, h5, h6⟩
  · exfalso
    simp at h0
    omega
  simp only [Option.some.injEq, Addr.mk.injEq, and_true] at h4
  obtain ⟨rfl, rfl⟩ := h4
  have hne : cap ≠ l := by simp at h0; omega
  refine ⟨b, o + l * 1, by rw [slA_ne hne], arr, t, fr, h5, fun j v hj => ?_⟩
  have h7 : (bytesC bs)[l + j]? = some v := by
    rw [bytesC, List.map_drop, List.getElem?_drop] at hj
    exact hj
  have := h6 (l + j) v h7
  rwa [show o + l * 1 + j = o + (l + j) by omega]
/-- Blocks of bytes taken, one after the other. -/
def dBlocks (K : List Int) (s : V8) (bs : List UInt8) : Nat → V8
  | 0 => s
  | j + 1 => dBlock K (dBlocks K s bs j) (bs.drop (64 * j))
theorem dBlocks_zero (K : List Int) (s : V8) (bs : List UInt8) : dBlocks K s bs 0 = s := rfl
theorem dBlocks_succ (K : List Int) (s : V8) (bs : List UInt8) (j : Nat) : dBlocks K s bs (j + 1) = dBlock K (dBlocks K s bs j) (bs.drop (64 * j)) := rfl
def dS8 : V8 := ⟨0x6a09e667, 0xbb67ae85, 0x3c6ef372, 0xa54ff53a, 0x510e527f, 0x9b05688c, 0x1f83d9ab, 0x5be0cd19⟩
/-- What is left, laid out; and its end. -/
def dLast (rest : List UInt8) : List UInt8 := (rest ++ List.replicate (128 - rest.length) 0).set rest.length 128
def dEnd (rest : List UInt8) : Nat := if 56 ≤ rest.length then 128 else 64
def dBits (n : Nat) : Int := IntKind.u64.wrap (IntKind.u64.wrap (n : Int) * 2 ^ Min.min (3 : Int).toNat IntKind.u64.bits)
def dDigit (n i : Nat) : Int := IntKind.u8.wrap (dBits n / 2 ^ Min.min ((8 * i : Nat) : Int).toNat IntKind.u64.bits)
def dTail (n : Nat) (rest : List UInt8) : Nat → List UInt8
  | 0 => dLast rest
  | i + 1 => (dTail n rest i).set (dEnd rest - 1 - i) (UInt8.ofNat (dDigit n i).toNat)
def dByte (x : Int) (sh : Int) : Int := IntKind.u8.wrap (x / 2 ^ Min.min sh.toNat IntKind.u32.bits)
def dOut (s : List Int) : Nat → List Int
  | 0 => List.replicate 32 0
  | i + 1 => ((((dOut s i).set (4 * i) (dByte (s.getD i 0) 24)).set (4 * i + 1) (dByte (s.getD i 0) 16)).set (4 * i + 2) (dByte (s.getD i 0) 8)).set (4 * i + 3) (IntKind.u8.wrap (s.getD i 0))
/-- SHA-256, as the program computes it. -/
def dSum (bs : List UInt8) : List Int :=
  let q := bs.length / 64
  let rest := bs.drop (64 * q)
  let s := dBlocks dK dS8 bs q
  dOut (dBlocks dK s (dTail bs.length rest 8) (dEnd rest / 64)).l 8
theorem dTail_len (n : Nat) (rest : List UInt8) (h : rest.length ≤ 128) (i : Nat) : (dTail n rest i).length = 128 := by
  induction i with
  | zero => simp [dTail, dLast]; omega
  | succ i ih => simp [dTail, ih]
theorem dOut_len (s : List Int) (i : Nat) : (dOut s i).length = 32 := by
  induction i with
  | zero => simp [dOut]
  | succ i ih => simp [dOut, ih]
theorem u8w (x : Int) : IntKind.u8.wrap x = ((UInt8.ofNat (IntKind.u8.wrap x).toNat).toNat : Int) := by
  have h0 := wrap_u8_nonneg x
  have h1 : IntKind.u8.wrap x < 256 := by simp [IntKind.wrap, IntKind.bits, IntKind.signed]; omega
  rw [UInt8.toNat_ofNat']
  omega
end Go.Proofs.YtccgdnocldmjeaaGreatDoor
namespace Go.Proofs.YtccgdnocldmjeaaGreatDoor
open Go
set_option maxHeartbeats 4000000
set_option linter.unusedSimpArgs false
set_option linter.unusedVariables false
set_option maxRecDepth 20000
/-- How many zeros follow the mark. -/
def rPad (n : Nat) : Nat := (119 - n % 64) % 64
theorem rPad_lt (n : Nat) : rPad n < 64 := by unfold rPad; omega
theorem rPad_mod (n : Nat) : (n + 1 + rPad n) % 64 = 56 := by unfold rPad; omega
theorem rPad_least (n i : Nat) (h : i < rPad n) : ¬ (n + 1 + i) % 64 = 56 := by unfold rPad at h; omega
/-- The digits of the length, the highest first: the first k of them. -/
def rDig (n : Nat) : Nat → List UInt8
  | 0 => []
  | k + 1 => rDig n k ++ [UInt8.ofNat (dDigit n (7 - k)).toNat]
theorem rDig_len (n k : Nat) : (rDig n k).length = k := by
  induction k with
  | zero => rfl
  | succ k ih => simp [rDig, ih]
theorem rDig_at (n k i : Nat) (h : i < k) : (rDig n k).getD i 0 = UInt8.ofNat (dDigit n (7 - i)).toNat := by
  induction k with
  | zero => omega
  | succ k ih =>
    simp only [rDig, List.getD_eq_getElem?_getD] at ih ⊢
    by_cases e : i = k
    · subst e
      rw [List.getElem?_append_right (by rw [rDig_len]; omega), rDig_len, Nat.sub_self]
      rfl
    · rw [List.getElem?_append_left (by rw [rDig_len]; omega)]
      exact ih (by omega)
def rMsg (bs : List UInt8) : List UInt8 := bs ++ [128] ++ List.replicate (rPad bs.length) 0 ++ rDig bs.length 8
theorem rMsg_len (bs : List UInt8) : (rMsg bs).length = bs.length + 1 + rPad bs.length + 8 := by
  simp only [rMsg, List.length_append, List.length_replicate, rDig_len, List.length_cons, List.length_nil]
theorem dW1_congr {bs cs : List UInt8} (h : ∀ i, i < 64 → bs.getD i 0 = cs.getD i 0) (n : Nat) (hn : n ≤ 16) : dW1 bs n = dW1 cs n := by
  induction n with
  | zero => rw [dW1_zero, dW1_zero]
  | succ n ih =>
    rw [dW1_succ, dW1_succ, ih (by omega)]
    unfold dSet1 byteI
    rw [h _ (by omega), h _ (by omega), h _ (by omega), h _ (by omega)]
theorem dW2_congr {bs cs : List UInt8} (h : ∀ i, i < 64 → bs.getD i 0 = cs.getD i 0) (n : Nat) : dW2 bs n = dW2 cs n := by
  induction n with
  | zero => rw [dW2_zero, dW2_zero, dW1_congr h 16 (by omega)]
  | succ n ih => rw [dW2_succ, dW2_succ, ih]
theorem dBlock_congr (K : List Int) (s : V8) {bs cs : List UInt8} (h : ∀ i, i < 64 → bs.getD i 0 = cs.getD i 0) : dBlock K s bs = dBlock K s cs := by
  unfold dBlock
  rw [dW2_congr h]
theorem getD_drop (bs : List UInt8) (n i : Nat) : (bs.drop n).getD i 0 = bs.getD (n + i) 0 := by
  simp [List.getD_eq_getElem?_getD, List.getElem?_drop]
theorem getD_take (bs : List UInt8) (n i : Nat) (h : i < n) : (bs.take n).getD i 0 = bs.getD i 0 := by
  simp [List.getD_eq_getElem?_getD, List.getElem?_take, h]
theorem dBlocks_congr (K : List Int) (s : V8) {bs cs : List UInt8} (n : Nat) (h : ∀ i, i < 64 * n → bs.getD i 0 = cs.getD i 0) : dBlocks K s bs n = dBlocks K s cs n := by
  induction n with
  | zero => rfl
  | succ n ih =>
    rw [dBlocks_succ, dBlocks_succ, ih (fun i hi => h i (by omega))]
    refine dBlock_congr _ _ fun i hi => ?_
    rw [getD_drop, getD_drop]
    exact h _ (by omega)
theorem dBlocks_add (K : List Int) (s : V8) (bs : List UInt8) (q e : Nat) : dBlocks K s bs (q + e) = dBlocks K (dBlocks K s bs q) (bs.drop (64 * q)) e := by
  induction e with
  | zero => rfl
  | succ e ih =>
    rw [← Nat.add_assoc, dBlocks_succ, dBlocks_succ, ih, List.drop_drop]
    congr 2
    omega
theorem getD_set (l : List UInt8) (i j : Nat) (v : UInt8) (hj : j < l.length) : (l.set j v).getD i 0 = if i = j then v else l.getD i 0 := by
  simp only [List.getD_eq_getElem?_getD]
  by_cases h : i = j
  · subst h
    rw [if_pos rfl, List.getElem?_set_self hj]
    rfl
  · rw [if_neg h, List.getElem?_set_ne (by omega)]
theorem dTail_getD (n : Nat) (R : List UInt8) (h : R.length < 64) (k : Nat) (hk : k ≤ 8) (i : Nat) (hi : i < dEnd R) :
    (dTail n R k).getD i 0 = if dEnd R - k ≤ i then UInt8.ofNat (dDigit n (dEnd R - 1 - i)).toNat else if i < R.length then R.getD i 0 else if i = R.length then 128 else 0 := by
  have hE : dEnd R = 64 ∧ R.length < 56 ∨ dEnd R = 128 := by unfold dEnd; split <;> omega
  induction k with
  | zero =>
    rw [if_neg (by omega)]
    unfold dTail dLast
    rw [getD_set _ _ _ _ (by simp; omega)]
    by_cases e : i = R.length
    · rw [if_pos e, if_neg (by omega), if_pos e]
    · rw [if_neg e, if_neg e]
      simp only [List.getD_eq_getElem?_getD]
      by_cases hlt : i < R.length
      · rw [if_pos hlt, List.getElem?_append_left hlt]
      · rw [if_neg hlt, List.getElem?_append_right (by omega), List.getElem?_replicate]
        split <;> rfl
  | succ k ih =>
    have hl := dTail_len n R (by omega) k
    rw [dTail, getD_set _ _ _ _ (by omega), ih (by omega)]
    by_cases e : i = dEnd R - 1 - k
    · rw [if_pos e, if_pos (by omega)]
      congr 3
      omega
    · rw [if_neg e]
      by_cases h2 : dEnd R - k ≤ i
      · rw [if_pos h2, if_pos (by omega)]
      · rw [if_neg h2, if_neg (show ¬ dEnd R - (k + 1) ≤ i by omega)]
theorem rMsg_getD (bs : List UInt8) (q : Nat) (hq : q = bs.length / 64) (i : Nat) (hi : i < dEnd (bs.drop (64 * q))) :
    (rMsg bs).getD (64 * q + i) 0 = (dTail bs.length (bs.drop (64 * q)) 8).getD i 0 := by
  have hR : (bs.drop (64 * q)).length = bs.length % 64 := by simp; omega
  have hE : dEnd (bs.drop (64 * q)) = 64 ∧ bs.length % 64 < 56 ∨ dEnd (bs.drop (64 * q)) = 128 ∧ 56 ≤ bs.length % 64 := by unfold dEnd; rw [hR]; split <;> omega
  have hP : bs.length % 64 + 1 + rPad bs.length = dEnd (bs.drop (64 * q)) - 8 := by unfold rPad; omega
  rw [dTail_getD _ _ (by omega) 8 (by omega) i hi, hR, getD_drop]
  generalize dEnd (bs.drop (64 * q)) = E at *
  unfold rMsg
  simp only [List.getD_eq_getElem?_getD]
  by_cases h1 : i < bs.length % 64
  · rw [if_neg (by omega), if_pos h1, List.append_assoc, List.append_assoc, List.getElem?_append_left (by omega)]
  · by_cases h2 : i = bs.length % 64
    · rw [if_neg (by omega), if_neg h1, if_pos h2, List.append_assoc, List.append_assoc, List.getElem?_append_right (by omega), List.getElem?_append_left (by simp; omega), show 64 * q + i - bs.length = 0 by omega]
      rfl
    · by_cases h3 : E - 8 ≤ i
      · rw [if_pos h3, List.getElem?_append_right (by simp; omega)]
        have hd := rDig_at bs.length 8 (i - (E - 8)) (by omega)
        rw [List.getD_eq_getElem?_getD] at hd
        have e1 : 64 * q + i - (bs ++ [128] ++ List.replicate (rPad bs.length) 0).length = i - (E - 8) := by simp; omega
        rw [e1, hd]
        congr 3
        omega
      · rw [if_neg h3, if_neg h1, if_neg h2, List.getElem?_append_left (by simp; omega), List.getElem?_append_right (by simp; omega), List.getElem?_replicate]
        split <;> rfl
/-- What is told: a word's bytes, one by one. -/
def rByteAt (s : List Int) (i : Nat) : Int := if i % 4 = 3 then IntKind.u8.wrap (s.getD (i / 4) 0) else dByte (s.getD (i / 4) 0) ((24 - 8 * (i % 4) : Nat) : Int)
def rOut (s : List Int) : Nat → List Int
  | 0 => List.replicate 32 0
  | i + 1 => (rOut s i).set i (rByteAt s i)
theorem rOut_len (s : List Int) (i : Nat) : (rOut s i).length = 32 := by
  induction i with
  | zero => simp [rOut]
  | succ i ih => simp [rOut, ih]
theorem rOut_eq (v : V8) : rOut v.l 32 = dOut v.l 8 := by
  obtain ⟨a, b, c, d, e, f, g, h⟩ := v
  rfl
theorem rMsg_blocks (bs : List UInt8) : (rMsg bs).length = 64 * (bs.length / 64 + dEnd (bs.drop (64 * (bs.length / 64))) / 64) := by
  have hR : (bs.drop (64 * (bs.length / 64))).length = bs.length % 64 := by simp; omega
  rw [rMsg_len]
  unfold dEnd
  rw [hR]
  unfold rPad
  split <;> omega
theorem rSum_eq (bs : List UInt8) : rOut (dBlocks dK dS8 (rMsg bs) ((rMsg bs).length / 64)).l 32 = dSum bs := by
  rw [rOut_eq, rMsg_blocks, Nat.mul_div_cancel_left _ (by omega)]
  unfold dSum
  simp only
  congr 2
  rw [dBlocks_add]
  have h1 : dBlocks dK dS8 (rMsg bs) (bs.length / 64) = dBlocks dK dS8 bs (bs.length / 64) := by
    refine dBlocks_congr _ _ _ fun i hi => ?_
    unfold rMsg
    simp only [List.getD_eq_getElem?_getD, List.append_assoc]
    rw [List.getElem?_append_left (by omega)]
  rw [h1]
  refine dBlocks_congr _ _ _ fun i hi => ?_
  have hE : dEnd (bs.drop (64 * (bs.length / 64))) = 64 ∨ dEnd (bs.drop (64 * (bs.length / 64))) = 128 := by unfold dEnd; split <;> simp
  rw [getD_drop]
  exact rMsg_getD bs _ rfl i (by omega)
end Go.Proofs.YtccgdnocldmjeaaGreatDoor
namespace Go.Proofs.YtccgdnocldmjeaaGreatDoor
open Go
set_option maxHeartbeats 4000000
set_option linter.unusedSimpArgs false
set_option linter.unusedVariables false
set_option maxRecDepth 20000
theorem dK_len : dK.length = 64 := rfl
abbrev v8 (x : Int) : Value := .int .u8 x
theorem put8v (L : List Int) (i : Nat) (x : Int) (h : i < L.length) : lput (L.map v8) (0 + i * 1) [v8 x] = (L.set i x).map v8 := by
  rw [show 0 + i * 1 = i by omega, lput_step _ _ _ _ (by simpa using h), lput_nil, List.map_set]
theorem dOut_zero (s : List Int) : dOut s 0 = List.replicate 32 0 := rfl
theorem dOut_succ (s : List Int) (i : Nat) : dOut s (i + 1) = ((((dOut s i).set (4 * i) (dByte (s.getD i 0) 24)).set (4 * i + 1) (dByte (s.getD i 0) 16)).set (4 * i + 2) (dByte (s.getD i 0) 8)).set (4 * i + 3) (IntKind.u8.wrap (s.getD i 0)) := rfl
theorem lput_bytes (R : List UInt8) (h : R.length ≤ 128) : lput (List.replicate 128 (.int .u8 0)) 0 (bytesC R) = bytesC (R ++ List.replicate (128 - R.length) 0) := by
  have h1 : (bytesC R).length = R.length := bytesC_length R
  rw [lput_eq _ _ _ (by rw [h1, List.length_replicate]; omega), h1]
  simp only [List.take_zero, List.nil_append, Nat.zero_add, List.drop_replicate, bytesC, List.map_append, List.map_replicate]
  rfl
theorem put8 (L : List UInt8) (i : Nat) (b : UInt8) (h : i < L.length) : lput (bytesC L) (0 + i * 1) [.int .u8 b.toNat] = bytesC (L.set i b) := by
  rw [show 0 + i * 1 = i by omega, lput_step _ _ _ _ (by rw [bytesC_length]; exact h), lput_nil]
  simp [bytesC, u8c, List.map_set]
theorem dTail_zero (n : Nat) (R : List UInt8) : dTail n R 0 = dLast R := rfl
theorem dTail_succ (n : Nat) (R : List UInt8) (i : Nat) : dTail n R (i + 1) = (dTail n R i).set (dEnd R - 1 - i) (UInt8.ofNat (dDigit n i).toNat) := rfl
theorem RdRow.sub7 {a r : Res} {sz n : Nat} {v : Value} {xs : List Value} (hle : ∀ b x, a b = some x → r b = some x) (h : RdRow (fun b => (a b).map (·.2)) sz v n xs) : RdRow (fun b => (r b).map (·.2)) sz v n xs :=
  RdRow.mono _ _ _ _ _ _ (fun b o hb => by
    cases hx : a b with
    | none => rw [hx] at hb; cases hb
    | some y => rw [hx] at hb; rw [hle b y hx]; exact hb) h
/-- A block of owned bytes is taken in. -/
theorem take_own (Kl : List Int) (hKl : Kl.length = 64) (s kb nl : Nat) (S : V8) (T : List UInt8) (hT : T.length = 128) (o : Nat) (ho : o ≤ 64) :
    Trip Tryz.prog 63 [vp s 0, .slice (some (slA nl 0 o 128 1)) (128 - o) (128 - o), vp kb 0] [cel nl 131 (bytesC T), cel s 126 S.C, cel kb 127 (Kl.map v32)]
      (fun r l => r = .tuple #[] ∧ l = [cel nl 131 (bytesC T), cel s 126 (dBlock Kl S (T.drop o)).C, cel kb 127 (Kl.map v32)]) := by
  have hd : (T.drop o).length = 128 - o := by simp [hT]
  have h0 := take_ok Kl hKl s kb S (.slice (some (slA nl 0 o 128 1)) (128 - o) (128 - o)) (T.drop o) (by omega) (by omega)
  have h1 : Trip Tryz.prog 63 [vp s 0, .slice (some (slA nl 0 o 128 1)) (128 - o) (128 - o), vp kb 0] (fz (fun g => RdBytes g (.slice (some (slA nl 0 o 128 1)) (128 - o) (128 - o)) (T.drop o)) :: [cel s 126 S.C, cel kb 127 (Kl.map v32)])
      (fun r l => r = .tuple #[] ∧ l = [cel s 126 (dBlock Kl S (T.drop o)).C, cel kb 127 (Kl.map v32)]) := by
    refine Trip.gh Gk (Trip.via (rest := []) h0 Tk.rfl_ ?_)
    rintro r l ⟨rfl, rfl⟩
    exact ⟨_, ⟨rfl, rfl⟩, Gk⟩
  have h2 := Trip.lend (own := [cel nl 131 (bytesC T)]) h1 (fun r hr => by
    obtain ⟨r1, r2, hj, h1, _⟩ := hr
    have h3 := row_iced (rowA_cel (n := 128) (sz := 1) (by rw [bytesC_length, hT]) r1 h1)
    have h4 := RdRow.sub7 (fun b y hb => hj.left hb) h3
    have h5 : RdBytes (fun b => (r b).map (·.2)) (.slice (some ⟨nl, 0, none⟩) 128 128) T := by rw [RdBytes, hT]; exact h4
    exact RdBytes.drop_ h5 (by omega) (by omega)) (by rintro v l ⟨rfl, rfl⟩; exact OwnL.cons Own1.cel (OwnL.cons Own1.cel OwnL.nil))
  refine Trip.mono h2 ?_
  rintro r l ⟨l', ⟨rfl, rfl⟩, rfl⟩
  exact ⟨rfl, rfl⟩
abbrev suM (Kl : List Int) (nl nh ns nk : Nat) (S : V8) (L : List UInt8) : List HP := [cel nl 131 (bytesC L), cel ns 126 S.C, cel nk 127 (Kl.map v32), cel nh 65 (List.replicate 32 (.int .u8 0))]
abbrev suE (a : Option Addr) (n c nh ns nk : Nat) (a' : Option Addr) (m c' : Nat) : Env := [(0, .slice a n c), (2, vp nh 0), (3, vp ns 0), (4, vp nk 0), (5, .slice a' m c')]
abbrev suL (Kl : List Int) (nh ns nk : Nat) (S : V8) (v : Value) (bs : List UInt8) : List HP := [cel ns 126 S.C, cel nk 127 (Kl.map v32), cel nh 65 (List.replicate 32 (.int .u8 0)), fz (fun g => RdBytes g v bs)]
theorem sum_ok (a : Option Addr) (c : Nat) (bs : List UInt8) (hl : bs.length ≤ 1000000000000) (hc : bs.length ≤ c) :
    Trip Tryz.prog 42 [.slice a bs.length c] [fz (fun g => RdBytes g (.slice a bs.length c) bs)]
      (fun r l => r = .agg ((dSum bs).map (Value.int .u8)).toArray ∧ l = []) := by
  obtain ⟨Z, hZ⟩ : ∃ Z, Z = dSum bs := ⟨_, rfl⟩
  rw [← hZ]
  unfold dSum at hZ
  simp only at hZ
  refine Trip.of_body Tryz.func42 rfl Tryz.ntmps42 Tryz.results42 rfl ?_
  refine Wsr ?_
  (refine WpL.step (Stp.alloc rfl ?_); intro nb2)
  refine Lnt (Wsr (Ls (Rdo.bldArr1 rfl rfl) ?_))
  (refine WpL.step (Stp.alloc rfl ?_); intro nb8)
  refine WpL.step (St rfl rfl (VC.ag _) ?_)
  refine Lnt (Wsr ?_)
  refine WpL.step (Sc (numbers_ok) rfl ?_)
  rintro _ _ ⟨rfl, rfl⟩
  refine Ll ?_
  (refine WpL.step (Stp.alloc rfl ?_); intro nb17)
  refine WpL.step (St rfl rfl (VC.ag _) ?_)
  refine Lnt (Wsr (Ls (Rdo.move rfl) (Ls (Rdo.assign rfl) (Lnt (Wp.seq (Wp.block ?_))))))
  have hKl := dK_len
  generalize dK = Kl at *
  refine Wp.loopE (fun k e h => ∃ (j : Nat) (a' : Option Addr) (c' : Nat), 64 * j + k = bs.length ∧ (bs.drop (64 * j)).length ≤ c' ∧ e = suE a bs.length c nb2 nb8 nb17 a' (bs.drop (64 * j)).length c' ∧ h = suL Kl nb2 nb8 nb17 (dBlocks Kl dS8 bs j) (.slice a' (bs.drop (64 * j)).length c') (bs.drop (64 * j))) bs.length
    (e0 := suE a bs.length c nb2 nb8 nb17 a bs.length c) (l0 := suL Kl nb2 nb8 nb17 dS8 (.slice a bs.length c) bs) (by repeat (first | exact trivial | refine ⟨rfl, ?_⟩)) (by repeat (first | exact trivial | refine ⟨rfl, ?_⟩)) Gk ⟨0, a, c, by omega, by simpa using hc, by simp, by simp [dBlocks_zero]⟩ ?_
  rintro k e h ⟨j, a', c', hjk, hc', rfl, rfl⟩
  have hdl : (bs.drop (64 * j)).length = bs.length - 64 * j := by simp
  have hnx : (bs.drop (64 * j)).length - 64 = (bs.drop (64 * (j + 1))).length := by simp; omega
  have hdd : (bs.drop (64 * j)).drop 64 = bs.drop (64 * (j + 1)) := by rw [List.drop_drop]; congr 1
  have hsucc := dBlocks_succ Kl dS8 bs j
  by_cases h64 : 64 ≤ (bs.drop (64 * j)).length
  · have h64' : ((bs.drop (64 * j)).length : Int) ≥ 64 := by omega
    generalize hR : bs.drop (64 * j) = R at *
    refine Wp.get (Pk.next (Pk.next (Pk.next Pk.here))) (row_some (by omega)) ?_
    rintro ⟨pb, po, rfl⟩
    have s1 := take_ok Kl hKl nb8 nb17 (dBlocks Kl dS8 bs j) (.slice (some ⟨pb, po, none⟩) R.length c') R (by omega) (by omega)
    refine Wp.gh (Gh.fzAlso (Ψ := fun g => RdBytes g (.slice (some (slA pb po 64 c' 1)) (R.length - 64) (c' - 64)) (R.drop 64)) (Pk.next (Pk.next (Pk.next Pk.here))) (fun g h => RdBytes.drop_ h (by omega) (by omega))) ?_
    refine Wp.seq (Wsr (Ls (Rdo.move rfl) (Ls (Rdo.lenSlice rfl) (Ls (Rdo.gei rfl rfl) (Lnt (cK rfl (Wp.skip (Thn.n (Wp.seq (Wp.block (Wp.region (Ls (Rdo.move rfl) ?_))))))))))))
    refine WpL.step (Sc (s1) rfl ?_)
    rintro _ _ ⟨rfl, rfl⟩
    refine Ll ?_
    refine WpL.nil (Blk.n (Thn.n (Wp.region (Ls (Rdo.move rfl) ?_))))
    refine Ls (Rdo.sl_l _ rfl rfl rfl (by omega)) ?_
    refine Ls (Rdo.assign rfl) (Lnt ?_)
    rw [hnx, hdd]
    exact ⟨k - 64, _, _, by omega, ⟨j + 1, some (slA pb po 64 c' 1), c' - 64, by omega, by omega, rfl, rfl⟩, (by repeat (first | exact trivial | refine ⟨rfl, ?_⟩)), by rw [hsucc]; exact Gk⟩
  · have h64' : ¬ ((bs.drop (64 * j)).length : Int) ≥ 64 := by omega
    have hq : bs.length / 64 = j := by omega
    rw [hq] at hZ
    generalize dBlocks Kl dS8 bs j = S at *
    generalize hR : bs.drop (64 * j) = R at *
    refine Wp.seq (Wsr (Ls (Rdo.move rfl) (Ls (Rdo.lenSlice rfl) (Ls (Rdo.gei rfl rfl) (Lnt (cL rfl ?_))))))
    refine Wp.exit ?_
    refine Thn.x ?_
    refine Thn.x ?_
    refine Blk.here ?_
    refine Thn.n (Wsr ?_)
    (refine WpL.step (Stp.alloc rfl ?_); intro nb16)
    refine Lnt (Wsr (Ls (Rdo.slArr rfl) (Ls (Rdo.move rfl) ?_)))
    refine WpL.step (Stp.copyAll rfl rfl (Src.next (Src.next (Src.next (Src.next Src.frozen)))) (by omega) (Sts.here (oneCells_bytesC R) (by simp [bytesC]; omega)) rfl ?_)
    refine Ls (Rdo.assign rfl) (Lnt (Wsr (Ls (Rdo.move rfl) ?_)))
    refine Ls (Rdo.indexArr rfl rfl (by omega)) ?_
    refine WpL.step (Stp.storeV rfl rfl (VC.i _ _) rfl (Sts.here (oneCells1 rfl) ?_) ?_)
    · rw [lput_bytes R (by omega)]
      simp [bytesC]
      omega
    rw [lput_bytes R (by omega), show Value.int .u8 128 = Value.int .u8 ((128 : UInt8).toNat : Int) from rfl, put8 _ _ _ (by simp; omega)]
    refine Lnt (Wsr (Ls (Rdo.assign rfl) (Lnt (Wp.seq (Wsr (Ls (Rdo.move rfl) (Ls (Rdo.gei rfl rfl) (Lnt ?_))))))))
    refine Wp.mono (Q := fun x e' l' => x = .normal ∧ EnvSub [(0, .slice a bs.length c), (2, vp nb2 0), (3, vp nb8 0), (4, vp nb17 0), (6, vp nb16 0), (8, vi (dEnd R))] e' ∧ Gh l' (suM Kl nb16 nb2 nb8 nb17 S (dLast R))) ?_ ?_
    · unfold dEnd
      by_cases h56 : 56 ≤ R.length
      · rw [if_pos h56]
        have h56' : (R.length : Int) ≥ 56 := by omega
        refine cK rfl (Wp.region (Ls (Rdo.assign rfl) (WpL.nil ?_)))
        exact ⟨rfl, (by repeat (first | exact trivial | refine ⟨rfl, ?_⟩)), Gk⟩
      · rw [if_neg h56]
        have h56' : ¬ (R.length : Int) ≥ 56 := by omega
        refine cL rfl (Wp.skip ?_)
        exact ⟨rfl, (by repeat (first | exact trivial | refine ⟨rfl, ?_⟩)), Gk⟩
    · rintro x e' l' ⟨rfl, he, hg⟩
      refine Thn.n (Wp.gh hg (Wp.sub he ?_))
      have hE : dEnd R = 64 ∨ dEnd R = 128 := by unfold dEnd; split <;> simp
      refine Wsr (Ls (Rdo.move rfl) (Ls (Rdo.lenSlice rfl) (Ls (Rdo.convInt rfl) ?_)))
      refine Ls (Rdo.shl rfl rfl (by omega)) ?_
      refine Ls (Rdo.assign rfl) (Lnt (Wp.seq (Wsr (Ls (Rdo.move rfl) (Lnt (Wp.block ?_))))))
      change Wp _ _ _ _ _ (eset (eset (eset (eset (eset (eset _ 31 (.slice a bs.length c)) 32 (.int .i64 bs.length)) 33 (.int .u64 (IntKind.u64.wrap bs.length))) 34 (.int .u64 (dBits bs.length))) 9 (.int .u64 (dBits bs.length))) 35 (.int .i64 0)) _
      refine Wp.loopE (fun k e h => ∃ i : Nat, i + k = 8 ∧ e = [(0, .slice a bs.length c), (2, vp nb2 0), (3, vp nb8 0), (4, vp nb17 0), (6, vp nb16 0), (8, vi (dEnd R)), (9, .int .u64 (dBits bs.length)), (35, vi i)] ∧ h = suM Kl nb16 nb2 nb8 nb17 S (dTail bs.length R i)) 8
        (e0 := [(0, .slice a bs.length c), (2, vp nb2 0), (3, vp nb8 0), (4, vp nb17 0), (6, vp nb16 0), (8, vi (dEnd R)), (9, .int .u64 (dBits bs.length)), (35, vi (0 : Nat))]) (l0 := suM Kl nb16 nb2 nb8 nb17 S (dTail bs.length R 0)) (by repeat (first | exact trivial | refine ⟨rfl, ?_⟩)) (by repeat (first | exact trivial | refine ⟨rfl, ?_⟩)) (by rw [dTail_zero]; exact Gk) ⟨0, by omega, rfl, rfl⟩ ?_
      rintro k e h ⟨i, hik, rfl, rfl⟩
      by_cases hi : i < 8
      · have hi' : (i : Int) < 8 := by omega
        have n1 : ((dEnd R : Nat) : Int) - 1 = ((dEnd R - 1 : Nat) : Int) := by omega
        have n2 : ((dEnd R - 1 : Nat) : Int) - (i : Int) = ((dEnd R - 1 - i : Nat) : Int) := by omega
        have m1 : (8 : Int) * (i : Int) = ((8 * i : Nat) : Int) := by omega
        have hlen := dTail_len bs.length R (by omega) i
        refine Wsr (Ls (Rdo.lti rfl rfl) (Lnt (Wp.seq (cK rfl (Wp.skip (Thn.n (Wp.seq (Wp.block (Wsr (Ls (Rdo.move rfl) (Ls (Rdo.assign rfl) (Lnt (Wp.region ?_)))))))))))))
        refine Ls (Rdo.move rfl) ?_
        refine Ls (Rdo.subE rfl rfl (by assumption) (by omega)) ?_
        refine Ls (Rdo.move rfl) ?_
        refine Ls (Rdo.subE rfl rfl (by assumption) (by omega)) ?_
        refine Ls (Rdo.move rfl) (Ls (Rdo.move rfl) ?_)
        refine Ls (Rdo.mulE rfl rfl (by assumption) (by omega)) ?_
        refine Ls (Rdo.shr rfl rfl (by omega)) ?_
        refine Ls (Rdo.convInt rfl) ?_
        refine Ls (Rdo.indexArr rfl rfl (by omega)) ?_
        refine WpL.step (Stp.storeV rfl rfl (VC.i _ _) rfl (Sts.here (oneCells1 rfl) ?_) ?_)
        · rw [bytesC_length, hlen]
          simp only [List.length_cons, List.length_nil]
          omega
        rw [u8w, put8 _ _ _ (by omega)]
        refine WpL.gh (l' := suM Kl nb16 nb2 nb8 nb17 S (dTail bs.length R (i + 1))) (by rw [dTail_succ]; exact Gk) ?_
        refine WpL.nil (Blk.n (Thn.n (Wp.region ?_)))
        refine Ls (Rdo.succ rfl rfl (by omega)) ?_
        refine Ls (Rdo.move rfl) (Lnt ?_)
        exact ⟨k - 1, _, _, by omega, ⟨i + 1, by omega, rfl, rfl⟩, (by repeat (first | exact trivial | refine ⟨rfl, ?_⟩)), Gk⟩
      · obtain rfl : i = 8 := by omega
        have hT := dTail_len bs.length R (by omega) 8
        have hEq : dEnd R / 64 = 1 ∧ dEnd R = 64 ∨ dEnd R / 64 = 2 ∧ dEnd R = 128 := by omega
        generalize dTail bs.length R 8 = T at *
        generalize dEnd R = E at *
        generalize hEE : E / 64 = Q at *
        refine Wsr (Ls (Rdo.lti rfl rfl) (Lnt (Wp.seq ?_)))
        refine Wp.condF rfl ?_
        refine Wp.exit ?_
        refine Thn.x ?_
        refine Thn.x ?_
        refine Blk.here ?_
        refine Thn.n (Wp.seq (Wsr (Ls (Rdo.assign rfl) (Lnt (Wp.block ?_)))))
        refine Wp.loopE (fun k e h => ∃ q : Nat, q + k = Q ∧ e = [(2, vp nb2 0), (3, vp nb8 0), (4, vp nb17 0), (6, vp nb16 0), (8, vi E), (11, vi ((64 * q : Nat) : Int))] ∧ h = suM Kl nb16 nb2 nb8 nb17 (dBlocks Kl S T q) T) Q
          (e0 := [(2, vp nb2 0), (3, vp nb8 0), (4, vp nb17 0), (6, vp nb16 0), (8, vi E), (11, vi ((64 * 0 : Nat) : Int))]) (l0 := suM Kl nb16 nb2 nb8 nb17 (dBlocks Kl S T 0) T) (by repeat (first | exact trivial | refine ⟨rfl, ?_⟩)) (by repeat (first | exact trivial | refine ⟨rfl, ?_⟩)) (by rw [dBlocks_zero]; exact Gk) ⟨0, by omega, rfl, rfl⟩ ?_
        rintro k e h ⟨q, hqk, rfl, rfl⟩
        by_cases hq : q < Q
        · have hq' : ((64 * q : Nat) : Int) < E := by omega
          have a1 : ((64 * q : Nat) : Int) + 64 = ((64 * (q + 1) : Nat) : Int) := by omega
          have hs2 := dBlocks_succ Kl S T q
          have s1 := take_own Kl hKl nb8 nb17 nb16 (dBlocks Kl S T q) T hT (64 * q) (by omega)
          rw [← hs2] at s1
          refine Wp.seq (Wsr (Ls (Rdo.move rfl) (Ls (Rdo.move rfl) (Ls (Rdo.lti rfl rfl) (Lnt (cK rfl (Wp.skip (Thn.n (Wp.seq (Wp.block (Wp.region (Ls (Rdo.move rfl) ?_))))))))))))
          refine Ls (Rdo.slArr_l _ rfl rfl rfl (by omega)) ?_
          refine WpL.step (Sc (s1) rfl ?_)
          rintro _ _ ⟨rfl, rfl⟩
          refine Ll ?_
          refine WpL.nil (Blk.n (Thn.n (Wp.region (Ls (Rdo.move rfl) ?_))))
          refine Ls (Rdo.addE rfl rfl (by assumption) (by omega)) ?_
          refine Ls (Rdo.assign rfl) (Lnt ?_)
          exact ⟨k - 1, _, _, by omega, ⟨q + 1, by omega, rfl, rfl⟩, (by repeat (first | exact trivial | refine ⟨rfl, ?_⟩)), Gk⟩
        · have hq' : ¬ ((64 * q : Nat) : Int) < E := by omega
          obtain rfl : q = Q := by omega
          generalize dBlocks Kl S T q = V at *
          refine Wp.seq (Wsr (Ls (Rdo.move rfl) (Ls (Rdo.move rfl) (Ls (Rdo.lti rfl rfl) (Lnt (cL rfl ?_))))))
          refine Wp.exit ?_
          refine Thn.x ?_
          refine Thn.x ?_
          refine Blk.here ?_
          refine Thn.n (Wp.seq (Wsr ?_))
          refine Ls (Rdo.load rfl (Lds.next Ld)) ?_
          refine Ls (Rdo.move rfl) (Lnt (Wp.block ?_))
          refine Wp.loopE (fun k e h => ∃ i : Nat, i + k = 8 ∧ e = [(2, vp nb2 0), (57, .agg V.C.toArray), (58, vi i)] ∧ h = [cel nb2 65 ((dOut V.l i).map v8)]) 8
            (e0 := [(2, vp nb2 0), (57, .agg V.C.toArray), (58, vi (0 : Nat))]) (l0 := [cel nb2 65 ((dOut V.l 0).map v8)]) (by repeat (first | exact trivial | refine ⟨rfl, ?_⟩)) (by repeat (first | exact trivial | refine ⟨rfl, ?_⟩)) (by rw [dOut_zero, List.map_replicate]; exact Gk) ⟨0, by omega, rfl, rfl⟩ ?_
          rintro k e h ⟨i, hik, rfl, rfl⟩
          by_cases hi : i < 8
          · have hi' : (i : Int) < 8 := by omega
            have w1 : V.C[i]? = some (v32 (V.l.getD i 0)) := by
              have := at32 V.l i hi
              rwa [show 0 + i * 1 = i by omega] at this
            have m1 : (4 : Int) * (i : Int) = ((4 * i : Nat) : Int) := by omega
            have a1 : ((4 * i : Nat) : Int) + 1 = ((4 * i + 1 : Nat) : Int) := by omega
            have a2 : ((4 * i : Nat) : Int) + 2 = ((4 * i + 2 : Nat) : Int) := by omega
            have a3 : ((4 * i : Nat) : Int) + 3 = ((4 * i + 3 : Nat) : Int) := by omega
            have hlen := dOut_len V.l i
            have hs3 := dOut_succ V.l i
            generalize hx : V.l.getD i 0 = x at *
            generalize dOut V.l i = D at *
            refine Wsr (Ls (Rdo.lti rfl rfl) (Lnt (Wp.seq (cK rfl (Wp.skip (Thn.n (Wp.seq (Wp.block (Wsr (Ls (Rdo.move rfl) ?_))))))))))
            refine Ls (Rdo.indexAgg1 rfl rfl (by omega) (by assumption)) ?_
            refine Ls (Rdo.assign rfl) (Ls (Rdo.assign rfl) (Lnt (Wp.region (Ls (Rdo.move rfl) ?_))))
            refine Ls (Rdo.mulE rfl rfl (by assumption) (by omega)) ?_
            refine Ls (Rdo.move rfl) ?_
            refine Ls (Rdo.mulE rfl rfl (by assumption) (by omega)) ?_
            refine Ls (Rdo.addE rfl rfl (by assumption) (by omega)) ?_
            refine Ls (Rdo.move rfl) ?_
            refine Ls (Rdo.mulE rfl rfl (by assumption) (by omega)) ?_
            refine Ls (Rdo.addE rfl rfl (by assumption) (by omega)) ?_
            refine Ls (Rdo.move rfl) ?_
            refine Ls (Rdo.mulE rfl rfl (by assumption) (by omega)) ?_
            refine Ls (Rdo.addE rfl rfl (by assumption) (by omega)) ?_
            refine Ls (Rdo.move rfl) ?_
            refine Ls (Rdo.shr rfl rfl (by omega)) ?_
            refine Ls (Rdo.convInt rfl) (Ls (Rdo.move rfl) ?_)
            refine Ls (Rdo.shr rfl rfl (by omega)) ?_
            refine Ls (Rdo.convInt rfl) (Ls (Rdo.move rfl) ?_)
            refine Ls (Rdo.shr rfl rfl (by omega)) ?_
            refine Ls (Rdo.convInt rfl) (Ls (Rdo.move rfl) (Ls (Rdo.convInt rfl) ?_))
            refine Ls (Rdo.indexArr rfl rfl (by omega)) ?_
            refine WpL.step (Stp.storeV rfl rfl (VC.i _ _) rfl (Sts.here (oneCells1 rfl) ?_) ?_)
            · simp only [List.length_map, List.length_set, List.length_cons, List.length_nil, hlen]; omega
            rw [put8v _ _ _ (by simp only [List.length_set, hlen]; omega)]
            refine Ls (Rdo.indexArr rfl rfl (by omega)) ?_
            refine WpL.step (Stp.storeV rfl rfl (VC.i _ _) rfl (Sts.here (oneCells1 rfl) ?_) ?_)
            · simp only [List.length_map, List.length_set, List.length_cons, List.length_nil, hlen]; omega
            rw [put8v _ _ _ (by simp only [List.length_set, hlen]; omega)]
            refine Ls (Rdo.indexArr rfl rfl (by omega)) ?_
            refine WpL.step (Stp.storeV rfl rfl (VC.i _ _) rfl (Sts.here (oneCells1 rfl) ?_) ?_)
            · simp only [List.length_map, List.length_set, List.length_cons, List.length_nil, hlen]; omega
            rw [put8v _ _ _ (by simp only [List.length_set, hlen]; omega)]
            refine Ls (Rdo.indexArr rfl rfl (by omega)) ?_
            refine WpL.step (Stp.storeV rfl rfl (VC.i _ _) rfl (Sts.here (oneCells1 rfl) ?_) ?_)
            · simp only [List.length_map, List.length_set, List.length_cons, List.length_nil, hlen]; omega
            rw [put8v _ _ _ (by simp only [List.length_set, hlen]; omega)]
            refine WpL.nil (Blk.n (Thn.n (Wp.region ?_)))
            refine Ls (Rdo.succ rfl rfl (by omega)) ?_
            refine Ls (Rdo.move rfl) (Lnt ?_)
            exact ⟨k - 1, _, _, by omega, ⟨i + 1, by omega, rfl, rfl⟩, (by repeat (first | exact trivial | refine ⟨rfl, ?_⟩)), by rw [hs3]; exact Gk⟩
          · obtain rfl : i = 8 := by omega
            have hlen := dOut_len V.l 8
            generalize dOut V.l 8 = D at *
            subst hZ
            have hlen2 : (Z.map v8).length = 32 := by rw [List.length_map]; exact hlen
            refine Wsr (Ls (Rdo.lti rfl rfl) (Lnt (Wp.seq ?_)))
            refine Wp.condF rfl ?_
            refine Wp.exit ?_
            refine Thn.x ?_
            refine Thn.x ?_
            refine Blk.here ?_
            refine Thn.n (Wsr ?_)
            refine Ls (Rdo.load rfl Ld) ?_
            refine WpL.step (St rfl rfl (VC.ag _) ?_)
            refine Lnt (Wp.ret ?_)
            refine Rt (ResV.cell rfl (by repeat (first | exact Lds.one rfl | (apply Lds.all; (first | rfl | assumption | (simp <;> fail))) | exact Lds.ione0 | exact Lds.ione rfl | (apply Lds.iall; (first | rfl | assumption | (simp <;> fail))) | apply Lds.next)) ResV.nil) ⟨rfl, rfl⟩
end Go.Proofs.YtccgdnocldmjeaaGreatDoor
namespace Go.Proofs.YtccgdnocldmjeaaGreatDoor
open Go
set_option maxHeartbeats 4000000
set_option linter.unusedSimpArgs false
set_option linter.unusedVariables false
set_option maxRecDepth 20000
theorem rk_ok : Trip Tryz.prog 66 [] [] (fun r l => r = .agg (dK.map v32).toArray ∧ l = []) := by
  refine Trip.of_body Tryz.func66 rfl Tryz.ntmps66 Tryz.results66 rfl ?_
  refine Wsr ?_
  (refine WpL.step (Stp.alloc rfl ?_); intro nb2)
  refine Lnt (Wsr (Ls (Rdo.bldArr1 rfl rfl) ?_))
  refine WpL.step (St rfl rfl (VC.ag _) ?_)
  refine Lnt (Wp.ret ?_)
  refine Rt (ResV.cell rfl (by repeat (first | exact Lds.one rfl | (apply Lds.all; (first | rfl | assumption | (simp <;> fail))) | exact Lds.ione0 | exact Lds.ione rfl | (apply Lds.iall; (first | rfl | assumption | (simp <;> fail))) | apply Lds.next)) ResV.nil) ⟨rfl, rfl⟩
theorem rr_ok (x n : Int) (hn : 0 ≤ n ∧ n ≤ 32) : Trip Tryz.prog 88 [v32 x, .int .u64 n] [] (fun r l => r = v32 (dTurn x n) ∧ l = []) := by
  have hw : 0 ≤ IntKind.u64.wrap (32 - n) := wrap_u64_nonneg _
  unfold dTurn
  refine Trip.of_body Tryz.func88 rfl Tryz.ntmps88 Tryz.results88 rfl ?_
  refine Wsr (Ls (Rdo.assign rfl) (Lnt (Wsr (Ls (Rdo.move rfl) (Ls (Rdo.move rfl) ?_)))))
  refine Ls (Rdo.shr rfl rfl (by omega)) ?_
  refine Ls (Rdo.move rfl) (Ls (Rdo.move rfl) (Ls (Rdo.sub rfl rfl) ?_))
  refine Ls (Rdo.shl rfl rfl (by omega)) ?_
  refine Ls (Rdo.or rfl rfl) (Ls (Rdo.assign rfl) (Lnt (Wp.ret ?_)))
  refine Rt (ResV.tmp rfl ResV.nil) ⟨rfl, rfl⟩
abbrev rbE (v : Value) (kb ns nr nw i : Nat) : Env := [(1, v), (2, vp kb 0), (3, vp ns 0), (6, vp nr 0), (7, vp nw 0), (8, vi i)]
abbrev rbL (Kl : List Int) (kb ns nr nw : Nat) (S : V8) (v : Value) (bs : List UInt8) (W : List Int) : List HP := [cel nw 127 (W.map v32), cel ns 125 S.C, cel nr 125 (List.replicate 8 (.int .u32 0)), cel kb 127 (Kl.map v32), fz (fun g => RdBytes g v bs)]
abbrev rcE (kb ns nr nw nv m : Nat) : Env := [(2, vp kb 0), (3, vp ns 0), (6, vp nr 0), (7, vp nw 0), (12, vp nv 0), (13, vi m)]
abbrev reE (ns nr nv i : Nat) : Env := [(3, vp ns 0), (6, vp nr 0), (12, vp nv 0), (18, vi i)]
abbrev reL (Kl : List Int) (kb ns nr nv : Nat) (V : V8) (v : Value) (bs : List UInt8) (A : List Int) : List HP := [cel ns 125 (A.map v32), cel nv 125 V.C, cel nr 125 (List.replicate 8 (.int .u32 0)), cel kb 127 (Kl.map v32), fz (fun g => RdBytes g v bs)]
theorem rblock_ok (Kl : List Int) (hKl : Kl.length = 64) (kb : Nat) (S : V8) (v : Value) (bs : List UInt8) (hl : 64 ≤ bs.length) (hl2 : bs.length ≤ 1099511627776) :
    Trip Tryz.prog 67 [.agg S.C.toArray, v, vp kb 0] [cel kb 127 (Kl.map v32), fz (fun g => RdBytes g v bs)]
      (fun r l => r = .agg (dBlock Kl S bs).C.toArray ∧ l = [cel kb 127 (Kl.map v32), fz (fun g => RdBytes g v bs)]) := by
  refine Trip.get (Pk.next Pk.here) shape_bytes ?_
  rintro ⟨a, c, rfl⟩
  refine Trip.get (Pk.next Pk.here) (row_some (by omega)) ?_
  rintro ⟨pb, po, rfl⟩
  refine Trip.of_body Tryz.func67 rfl Tryz.ntmps67 Tryz.results67 rfl ?_
  refine Wsr ?_
  (refine WpL.step (Stp.boxV rfl (VC.ag _) rfl ?_); intro nb2)
  (refine WpL.step (Stp.alloc rfl ?_); intro nb3)
  refine Lnt (Wsr ?_)
  (refine WpL.step (Stp.alloc rfl ?_); intro nb8)
  refine Lnt (Wp.seq (Wsr (Ls (Rdo.assign rfl) (Lnt (Wp.block ?_)))))
  refine Wp.loopE (fun k e h => ∃ i : Nat, i + k = 16 ∧ e = rbE (.slice (some ⟨pb, po, none⟩) bs.length c) kb nb2 nb3 nb8 i ∧ h = rbL Kl kb nb2 nb3 nb8 S (.slice (some ⟨pb, po, none⟩) bs.length c) bs (dW1 bs i)) 16
    (e0 := rbE (.slice (some ⟨pb, po, none⟩) bs.length c) kb nb2 nb3 nb8 0) (l0 := rbL Kl kb nb2 nb3 nb8 S (.slice (some ⟨pb, po, none⟩) bs.length c) bs (dW1 bs 0)) (by repeat (first | exact trivial | refine ⟨rfl, ?_⟩)) (by repeat (first | exact trivial | refine ⟨rfl, ?_⟩)) (by simp only [rbL, dW1_zero, List.map_replicate]; exact Gk) ⟨0, by omega, rfl, rfl⟩ ?_
  rintro k e h ⟨i, hik, rfl, rfl⟩
  by_cases hi : i < 16
  · have hi' : (i : Int) < 16 := by omega
    have m1 : (4 : Int) * (i : Int) = ((4 * i : Nat) : Int) := by omega
    have a1 : ((4 * i : Nat) : Int) + 1 = ((4 * i + 1 : Nat) : Int) := by omega
    have a2 : ((4 * i : Nat) : Int) + 2 = ((4 * i + 2 : Nat) : Int) := by omega
    have a3 : ((4 * i : Nat) : Int) + 3 = ((4 * i + 3 : Nat) : Int) := by omega
    have b0 := byteAt bs (4 * i) (by omega)
    have b1 := byteAt bs (4 * i + 1) (by omega)
    have b2 := byteAt bs (4 * i + 2) (by omega)
    have b3 := byteAt bs (4 * i + 3) (by omega)
    have hlen := dW1_len bs i
    refine Wp.seq (Wsr (Ls (Rdo.move rfl) (Ls (Rdo.lti rfl rfl) (Lnt (cK rfl (Wp.skip (Thn.n (Wp.seq (Wp.block ?_)))))))))
    refine Wp.draw (by kernel_rfl) ?_
    refine Qt (i := 0) rfl (Rdo.move rfl) (Qt (i := 1) rfl (Rdo.move rfl) (Qt (i := 2) rfl (Rdo.move rfl) ?_))
    refine Qt (i := 3) rfl (Rdo.mulE rfl rfl (by assumption) (by omega)) ?_
    refine Qt (i := 4) rfl (Rdo.indexSlice rfl rfl (by omega)) ?_
    refine Qt (i := 8) rfl (Rdo.move rfl) (Qt (i := 9) rfl (Rdo.move rfl) ?_)
    refine Qt (i := 10) rfl (Rdo.mulE rfl rfl (by assumption) (by omega)) ?_
    refine Qt (i := 11) rfl (Rdo.addE rfl rfl (by assumption) (by omega)) ?_
    refine Qt (i := 12) rfl (Rdo.indexSlice rfl rfl (by omega)) ?_
    refine Qt (i := 17) rfl (Rdo.move rfl) (Qt (i := 18) rfl (Rdo.move rfl) ?_)
    refine Qt (i := 19) rfl (Rdo.mulE rfl rfl (by assumption) (by omega)) ?_
    refine Qt (i := 20) rfl (Rdo.addE rfl rfl (by assumption) (by omega)) ?_
    refine Qt (i := 21) rfl (Rdo.indexSlice rfl rfl (by omega)) ?_
    refine Qt (i := 26) rfl (Rdo.move rfl) (Qt (i := 27) rfl (Rdo.move rfl) ?_)
    refine Qt (i := 28) rfl (Rdo.mulE rfl rfl (by assumption) (by omega)) ?_
    refine Qt (i := 29) rfl (Rdo.addE rfl rfl (by assumption) (by omega)) ?_
    refine Qt (i := 30) rfl (Rdo.indexSlice rfl rfl (by omega)) ?_
    refine WpR.phaseL (m := 1) #[true, true, true, true, true, true, true, true, true, true, true, true, true, true, true, true, true, true, true, true, true, true, true, true, true, true, true, true, true, true, true, true, true, true, true, false] 15 _ rfl (by kernel_rfl) (Tk.cons (Pk.next (Pk.next (Pk.next (Pk.next Pk.here)))) Tk.nil) ?_
    refine At (i := 5) rfl (Rdo.load rfl (Lds.fz1 (by first | assumption | exact bytesC_at (by assumption) | exact intsC_at (by assumption) | exact boolsC_at (by assumption)))) ?_
    refine At (i := 6) rfl (Rdo.convInt rfl) ?_
    refine At (i := 7) rfl (Rdo.shl rfl rfl (by omega)) ?_
    refine At (i := 13) rfl (Rdo.load rfl (Lds.fz1 (by first | assumption | exact bytesC_at (by assumption) | exact intsC_at (by assumption) | exact boolsC_at (by assumption)))) ?_
    refine At (i := 14) rfl (Rdo.convInt rfl) ?_
    refine At (i := 15) rfl (Rdo.shl rfl rfl (by omega)) ?_
    refine At (i := 16) rfl (Rdo.or rfl rfl) ?_
    refine At (i := 22) rfl (Rdo.load rfl (Lds.fz1 (by first | assumption | exact bytesC_at (by assumption) | exact intsC_at (by assumption) | exact boolsC_at (by assumption)))) ?_
    refine At (i := 23) rfl (Rdo.convInt rfl) ?_
    refine At (i := 24) rfl (Rdo.shl rfl rfl (by omega)) ?_
    refine At (i := 25) rfl (Rdo.or rfl rfl) ?_
    refine At (i := 31) rfl (Rdo.load rfl (Lds.fz1 (by first | assumption | exact bytesC_at (by assumption) | exact intsC_at (by assumption) | exact boolsC_at (by assumption)))) ?_
    refine At (i := 32) rfl (Rdo.convInt rfl) (At (i := 33) rfl (Rdo.or rfl rfl) ?_)
    refine At (i := 34) rfl (Rdo.indexArr rfl rfl (by omega)) ?_
    refine WpA.stop (by kernel_rfl) ?_
    refine Ql ?_
    refine Qo (i := 35) rfl (Stp.storeV rfl rfl (VC.i _ _) rfl (Sts.next (Sts.here (oneCells1 rfl) ?_)) ?_)
    · simp only [List.length_map, List.length_cons, List.length_nil, hlen]; omega
    rw [put32 _ _ _ (by omega)]
    refine WpR.gh (l' := rbL Kl kb nb2 nb3 nb8 S (.slice (some ⟨pb, po, none⟩) bs.length c) bs (dW1 bs (i + 1))) (by rw [dW1_succ]; exact Gk) ?_
    refine WpR.done (by kernel_rfl) ?_
    refine Blk.n (Thn.n (Wp.region (Ls (Rdo.move rfl) ?_)))
    refine Ls (Rdo.succ rfl rfl (by omega)) ?_
    refine Ls (Rdo.assign rfl) (Lnt ?_)
    exact ⟨k - 1, _, _, by omega, ⟨i + 1, by omega, rfl, rfl⟩, (by repeat (first | exact trivial | refine ⟨rfl, ?_⟩)), Gk⟩
  · obtain rfl : i = 16 := by omega
    refine Wp.seq (Wsr (Ls (Rdo.move rfl) (Ls (Rdo.lti rfl rfl) (Lnt ?_))))
    refine Wp.condF rfl ?_
    refine Wp.exit ?_
    refine Thn.x ?_
    refine Thn.x ?_
    refine Blk.here ?_
    refine Thn.n (Wp.seq (Wsr (Ls (Rdo.assign rfl) (Lnt (Wp.block ?_)))))
    refine Wp.loopE (fun k e h => ∃ j : Nat, j + k = 48 ∧ e = [(2, vp kb 0), (3, vp nb2 0), (6, vp nb3 0), (7, vp nb8 0), (9, vi ((16 + j : Nat) : Int))] ∧ h = rbL Kl kb nb2 nb3 nb8 S (.slice (some ⟨pb, po, none⟩) bs.length c) bs (dW2 bs j)) 48
      (e0 := [(2, vp kb 0), (3, vp nb2 0), (6, vp nb3 0), (7, vp nb8 0), (9, vi ((16 + 0 : Nat) : Int))]) (l0 := rbL Kl kb nb2 nb3 nb8 S (.slice (some ⟨pb, po, none⟩) bs.length c) bs (dW2 bs 0)) (by repeat (first | exact trivial | refine ⟨rfl, ?_⟩)) (by repeat (first | exact trivial | refine ⟨rfl, ?_⟩)) (by simp only [rbL, dW2_zero]; exact Gk) ⟨0, by omega, rfl, rfl⟩ ?_
    rintro k e h ⟨j, hjk, rfl, rfl⟩
    by_cases hj : j < 48
    · have hj' : ((16 + j : Nat) : Int) < 64 := by omega
      have hlen := dW2_len bs j
      have n1 : ((16 + j : Nat) : Int) - 16 = ((16 + j - 16 : Nat) : Int) := by omega
      have n2 : ((16 + j : Nat) : Int) - 15 = ((16 + j - 15 : Nat) : Int) := by omega
      have n3 : ((16 + j : Nat) : Int) - 7 = ((16 + j - 7 : Nat) : Int) := by omega
      have n4 : ((16 + j : Nat) : Int) - 2 = ((16 + j - 2 : Nat) : Int) := by omega
      have w1 := at32 (dW2 bs j) (16 + j - 16) (by omega)
      have w2 := at32 (dW2 bs j) (16 + j - 15) (by omega)
      have w3 := at32 (dW2 bs j) (16 + j - 7) (by omega)
      have w4 := at32 (dW2 bs j) (16 + j - 2) (by omega)
      have r1 := rr_ok ((dW2 bs j).getD (16 + j - 15) 0) 7 (by omega)
      have r2 := rr_ok ((dW2 bs j).getD (16 + j - 15) 0) 18 (by omega)
      have r3 := rr_ok ((dW2 bs j).getD (16 + j - 2) 0) 17 (by omega)
      have r4 := rr_ok ((dW2 bs j).getD (16 + j - 2) 0) 19 (by omega)
      refine Wp.seq (Wsr (Ls (Rdo.move rfl) (Ls (Rdo.lti rfl rfl) (Lnt (cK rfl (Wp.skip (Thn.n (Wp.seq (Wp.block (Wsr (Ls (Rdo.move rfl) ?_)))))))))))
      refine Ls (Rdo.subE rfl rfl (by assumption) (by omega)) ?_
      refine Ls (Rdo.indexArr rfl rfl (by omega)) ?_
      refine Ls (Rdo.load rfl (Lds.one (by assumption))) ?_
      refine Ls (Rdo.assign rfl) (Lnt (Wsr (Ls (Rdo.move rfl) ?_)))
      refine Ls (Rdo.subE rfl rfl (by assumption) (by omega)) ?_
      refine Ls (Rdo.indexArr rfl rfl (by omega)) ?_
      refine Ls (Rdo.load rfl (Lds.one (by assumption))) ?_
      refine Ls (Rdo.assign rfl) (Lnt ?_)
      refine Wp.draw (by kernel_rfl) ?_
      refine Qt (i := 0) rfl (Rdo.move rfl) (Qt (i := 1) rfl (Rdo.move rfl) ?_)
      refine Qt (i := 2) rfl (Rdo.subE rfl rfl (by assumption) (by omega)) ?_
      refine Qt (i := 3) rfl (Rdo.indexArr rfl rfl (by omega)) ?_
      refine Qt (i := 5) rfl (Rdo.move rfl) (Qt (i := 7) rfl (Rdo.move rfl) (Qt (i := 10) rfl (Rdo.move rfl) ?_))
      refine Qt (i := 11) rfl (Rdo.shr rfl rfl (by omega)) ?_
      refine Qt (i := 14) rfl (Rdo.move rfl) ?_
      refine Qt (i := 15) rfl (Rdo.subE rfl rfl (by assumption) (by omega)) ?_
      refine Qt (i := 16) rfl (Rdo.indexArr rfl rfl (by omega)) ?_
      refine Qt (i := 19) rfl (Rdo.move rfl) (Qt (i := 21) rfl (Rdo.move rfl) (Qt (i := 24) rfl (Rdo.move rfl) ?_))
      refine Qt (i := 25) rfl (Rdo.shr rfl rfl (by omega)) ?_
      refine WpR.phaseL (m := 1) #[true, true, true, true, true, true, true, true, true, true, true, true, true, true, true, true, true, true, true, true, true, true, true, true, true, true, true, true, true, false] 14 _ rfl (by kernel_rfl) (Tk.cons Pk.here Tk.nil) ?_
      refine At (i := 4) rfl (Rdo.load rfl (Lds.one (by assumption))) ?_
      refine At (i := 17) rfl (Rdo.load rfl (Lds.one (by assumption))) ?_
      refine WpA.one (i := 6) rfl (by kernel_rfl) (Sc (r1) rfl ?_)
      rintro _ _ ⟨rfl, rfl⟩
      refine WpA.lst (by simp only [List.cons_append, List.nil_append]; exact rfl) ?_
      refine WpA.one (i := 8) rfl (by kernel_rfl) (Sc (r2) rfl ?_)
      rintro _ _ ⟨rfl, rfl⟩
      refine WpA.lst (by simp only [List.cons_append, List.nil_append]; exact rfl) ?_
      refine At (i := 9) rfl (Rdo.xor rfl rfl) (At (i := 12) rfl (Rdo.xor rfl rfl) (At (i := 13) rfl (Rdo.add rfl rfl) (At (i := 18) rfl (Rdo.add rfl rfl) ?_)))
      refine WpA.one (i := 20) rfl (by kernel_rfl) (Sc (r3) rfl ?_)
      rintro _ _ ⟨rfl, rfl⟩
      refine WpA.lst (by simp only [List.cons_append, List.nil_append]; exact rfl) ?_
      refine WpA.one (i := 22) rfl (by kernel_rfl) (Sc (r4) rfl ?_)
      rintro _ _ ⟨rfl, rfl⟩
      refine WpA.lst (by simp only [List.cons_append, List.nil_append]; exact rfl) ?_
      refine At (i := 23) rfl (Rdo.xor rfl rfl) (At (i := 26) rfl (Rdo.xor rfl rfl) (At (i := 27) rfl (Rdo.add rfl rfl) ?_))
      refine At (i := 28) rfl (Rdo.indexArr rfl rfl (by omega)) ?_
      refine WpA.stop (by kernel_rfl) ?_
      refine Ql ?_
      refine Qo (i := 29) rfl (Stp.storeV rfl rfl (VC.i _ _) rfl (Sts.here (oneCells1 rfl) ?_) ?_)
      · simp only [List.length_map, List.length_cons, List.length_nil, hlen]; omega
      rw [put32 _ _ _ (by omega)]
      refine WpR.gh (l' := rbL Kl kb nb2 nb3 nb8 S (.slice (some ⟨pb, po, none⟩) bs.length c) bs (dW2 bs (j + 1))) (by rw [dW2_succ]; exact Gk) ?_
      refine WpR.done (by kernel_rfl) ?_
      refine Blk.n (Thn.n (Wp.region (Ls (Rdo.move rfl) ?_)))
      refine Ls (Rdo.succ rfl rfl (by omega)) ?_
      refine Ls (Rdo.assign rfl) (Lnt ?_)
      exact ⟨k - 1, _, _, by omega, ⟨j + 1, by omega, rfl, rfl⟩, (by repeat (first | exact trivial | refine ⟨rfl, ?_⟩)), Gk⟩
    · obtain rfl : j = 48 := by omega
      refine Wp.seq (Wsr (Ls (Rdo.move rfl) (Ls (Rdo.lti rfl rfl) (Lnt ?_))))
      refine Wp.condF rfl ?_
      refine Wp.exit ?_
      refine Thn.x ?_
      refine Thn.x ?_
      refine Blk.here ?_
      refine Thn.n (Wsr ?_)
      refine Ls (Rdo.load rfl (Lds.next Ld)) ?_
      (refine WpL.step (Stp.alloc rfl ?_); intro nb16)
      refine WpL.step (St rfl rfl (VC.ag _) ?_)
      refine Lnt (Wp.seq (Wsr (Ls (Rdo.assign rfl) (Lnt (Wp.block ?_)))))
      generalize hW : dW2 bs 48 = W at *
      have hWl : W.length = 64 := by rw [← hW]; exact dW2_len bs 48
      refine Wp.loopE (fun k e h => ∃ m : Nat, m + k = 64 ∧ e = rcE kb nb2 nb3 nb8 nb16 m ∧ h = cel nb16 125 (dRounds Kl W S m).C :: rbL Kl kb nb2 nb3 nb8 S (.slice (some ⟨pb, po, none⟩) bs.length c) bs W) 64
        (e0 := rcE kb nb2 nb3 nb8 nb16 0) (l0 := cel nb16 125 (dRounds Kl W S 0).C :: rbL Kl kb nb2 nb3 nb8 S (.slice (some ⟨pb, po, none⟩) bs.length c) bs W) (by repeat (first | exact trivial | refine ⟨rfl, ?_⟩)) (by repeat (first | exact trivial | refine ⟨rfl, ?_⟩)) (by rw [dRounds_zero]; exact Gk) ⟨0, by omega, rfl, rfl⟩ ?_
      rintro k e h ⟨m, hmk, rfl, rfl⟩
      by_cases hm : m < 64
      · have hm' : (m : Int) < 64 := by omega
        have w1 := at32 W m (by omega)
        have w2 := at32 Kl m (by omega)
        have hdr : dRounds Kl W S (m + 1) = dRound (dRounds Kl W S m) (Kl.getD m 0) (W.getD m 0) := dRounds_succ _ _ _ _
        generalize dRounds Kl W S m = V at *
        have r1 := rr_ok V.e 6 (by omega)
        have r2 := rr_ok V.e 11 (by omega)
        have r3 := rr_ok V.e 25 (by omega)
        have r4 := rr_ok V.a 2 (by omega)
        have r5 := rr_ok V.a 13 (by omega)
        have r6 := rr_ok V.a 22 (by omega)
        refine Wp.seq (Wsr (Ls (Rdo.move rfl) (Ls (Rdo.lti rfl rfl) (Lnt (cK rfl (Wp.skip (Thn.n (Wp.seq (Wp.block (Wp.seq ?_))))))))))
        refine Wp.draw (by kernel_rfl) ?_
        refine Qt (i := 0) rfl (Rdo.indexArrE (i := 0) rfl rfl rfl (by first | omega | (simp <;> omega))) ?_
        refine Qt (i := 2) rfl (Rdo.indexArrE (i := 4) rfl rfl rfl (by first | omega | (simp <;> omega))) ?_
        refine WpR.load (i := 1) [3] rfl (by kernel_rfl) (by kernel_rfl) (by kernel_rfl) (by kernel_rfl) (by kernel_rfl) rfl Tk.rfl_ (Harm.rd rfl (Rdo.load rfl (Lds.one rfl)) Harm.nil) (Rdo.load rfl (Lds.one rfl)) rfl ?_
        refine Qt (i := 4) rfl (Rdo.assign rfl) ?_
        refine Qo (i := 3) rfl (Stp.rd (Rdo.load rfl (Lds.one rfl)) rfl ?_)
        refine Qt (i := 5) rfl (Rdo.assign rfl) ?_
        refine WpR.done (by kernel_rfl) ?_
        refine Thn.n (Wp.seq ?_)
        refine Wp.draw (by kernel_rfl) ?_
        refine Qt (i := 0) rfl (Rdo.indexArrE (i := 7) rfl rfl rfl (by first | omega | (simp <;> omega))) ?_
        refine Qt (i := 2) rfl (Rdo.move rfl) (Qt (i := 4) rfl (Rdo.move rfl) (Qt (i := 7) rfl (Rdo.move rfl) (Qt (i := 11) rfl (Rdo.move rfl) ?_)))
        refine Qt (i := 12) rfl (Rdo.indexArrE (i := 5) rfl rfl rfl (by first | omega | (simp <;> omega))) ?_
        refine Qt (i := 15) rfl (Rdo.move rfl) (Qt (i := 16) rfl (Rdo.compl rfl) ?_)
        refine Qt (i := 17) rfl (Rdo.indexArrE (i := 6) rfl rfl rfl (by first | omega | (simp <;> omega))) ?_
        refine Qt (i := 22) rfl (Rdo.move rfl) (Qt (i := 23) rfl (Rdo.move rfl) (Qt (i := 24) rfl (Rdo.nilCheck rfl) ?_))
        refine Qt (i := 25) rfl (Rdo.indexArr rfl rfl (by omega)) ?_
        refine Qt (i := 28) rfl (Rdo.move rfl) ?_
        refine Qt (i := 29) rfl (Rdo.indexArr rfl rfl (by omega)) ?_
        refine WpR.phaseL (m := 0) #[true, true, true, true, true, true, true, true, true, true, true, true, true, true, true, true, true, true, true, true, true, true, true, true, true, true, true, true, true, true, true, true, true] 18 _ rfl (by kernel_rfl) (Tk.cons Pk.here (Tk.cons Pk.here (Tk.cons (Pk.next (Pk.next Pk.here)) Tk.nil))) ?_
        refine At (i := 1) rfl (Rdo.load rfl (Lds.one rfl)) (At (i := 13) rfl (Rdo.load rfl (Lds.one rfl)) (At (i := 14) rfl (Rdo.and rfl rfl) (At (i := 18) rfl (Rdo.load rfl (Lds.one rfl)) (At (i := 19) rfl (Rdo.and rfl rfl) (At (i := 20) rfl (Rdo.xor rfl rfl) ?_)))))
        refine At (i := 26) rfl (Rdo.load rfl (Lds.next (Lds.next (Lds.one (by assumption))))) ?_
        refine At (i := 30) rfl (Rdo.load rfl (Lds.next (Lds.one (by assumption)))) ?_
        refine WpA.one (i := 3) rfl (by kernel_rfl) (Sc (r1) rfl ?_)
        rintro _ _ ⟨rfl, rfl⟩
        refine WpA.lst (by simp only [List.cons_append, List.nil_append]; exact rfl) ?_
        refine WpA.one (i := 5) rfl (by kernel_rfl) (Sc (r2) rfl ?_)
        rintro _ _ ⟨rfl, rfl⟩
        refine WpA.lst (by simp only [List.cons_append, List.nil_append]; exact rfl) ?_
        refine At (i := 6) rfl (Rdo.xor rfl rfl) ?_
        refine WpA.one (i := 8) rfl (by kernel_rfl) (Sc (r3) rfl ?_)
        rintro _ _ ⟨rfl, rfl⟩
        refine WpA.lst (by simp only [List.cons_append, List.nil_append]; exact rfl) ?_
        refine At (i := 9) rfl (Rdo.xor rfl rfl) (At (i := 10) rfl (Rdo.add rfl rfl) (At (i := 21) rfl (Rdo.add rfl rfl) (At (i := 27) rfl (Rdo.add rfl rfl) (At (i := 31) rfl (Rdo.add rfl rfl) (At (i := 32) rfl (Rdo.assign rfl) ?_)))))
        refine WpA.stop (by kernel_rfl) ?_
        refine Ql ?_
        refine WpR.done (by kernel_rfl) ?_
        refine Thn.n (Wp.seq ?_)
        refine Wp.draw (by kernel_rfl) ?_
        refine Qt (i := 0) rfl (Rdo.move rfl) (Qt (i := 2) rfl (Rdo.move rfl) (Qt (i := 5) rfl (Rdo.move rfl) (Qt (i := 8) rfl (Rdo.move rfl) ?_)))
        refine Qt (i := 9) rfl (Rdo.indexArrE (i := 1) rfl rfl rfl (by first | omega | (simp <;> omega))) ?_
        refine Qt (i := 12) rfl (Rdo.move rfl) ?_
        refine Qt (i := 13) rfl (Rdo.indexArrE (i := 2) rfl rfl rfl (by first | omega | (simp <;> omega))) ?_
        refine Qt (i := 17) rfl (Rdo.indexArrE (i := 1) rfl rfl rfl (by first | omega | (simp <;> omega))) ?_
        refine Qt (i := 19) rfl (Rdo.indexArrE (i := 2) rfl rfl rfl (by first | omega | (simp <;> omega))) ?_
        refine WpR.phaseL (m := 0) #[true, true, true, true, true, true, true, true, true, true, true, true, true, true, true, true, true, true, true, true, true, true, true, true, true] 16 _ rfl (by kernel_rfl) (Tk.cons Pk.here Tk.nil) ?_
        refine At (i := 10) rfl (Rdo.load rfl (Lds.one rfl)) (At (i := 11) rfl (Rdo.and rfl rfl) (At (i := 14) rfl (Rdo.load rfl (Lds.one rfl)) (At (i := 15) rfl (Rdo.and rfl rfl) (At (i := 16) rfl (Rdo.xor rfl rfl) (At (i := 18) rfl (Rdo.load rfl (Lds.one rfl)) (At (i := 20) rfl (Rdo.load rfl (Lds.one rfl)) (At (i := 21) rfl (Rdo.and rfl rfl) (At (i := 22) rfl (Rdo.xor rfl rfl) ?_))))))))
        refine WpA.one (i := 1) rfl (by kernel_rfl) (Sc (r4) rfl ?_)
        rintro _ _ ⟨rfl, rfl⟩
        refine WpA.lst (by simp only [List.cons_append, List.nil_append]; exact rfl) ?_
        refine WpA.one (i := 3) rfl (by kernel_rfl) (Sc (r5) rfl ?_)
        rintro _ _ ⟨rfl, rfl⟩
        refine WpA.lst (by simp only [List.cons_append, List.nil_append]; exact rfl) ?_
        refine At (i := 4) rfl (Rdo.xor rfl rfl) ?_
        refine WpA.one (i := 6) rfl (by kernel_rfl) (Sc (r6) rfl ?_)
        rintro _ _ ⟨rfl, rfl⟩
        refine WpA.lst (by simp only [List.cons_append, List.nil_append]; exact rfl) ?_
        refine At (i := 7) rfl (Rdo.xor rfl rfl) (At (i := 23) rfl (Rdo.add rfl rfl) (At (i := 24) rfl (Rdo.assign rfl) ?_))
        refine WpA.stop (by kernel_rfl) ?_
        refine Ql ?_
        refine WpR.done (by kernel_rfl) ?_
        refine Thn.n (Wp.region (Ls (Rdo.move rfl) (Ls (Rdo.move rfl) (Ls (Rdo.add rfl rfl) (Ls (Rdo.move rfl) ?_)))))
        refine Ls (Rdo.indexArrE (i := 1) rfl rfl rfl (by first | omega | (simp <;> omega))) ?_
        refine Ls (Rdo.load rfl (Lds.one rfl)) ?_
        refine Ls (Rdo.indexArrE (i := 2) rfl rfl rfl (by first | omega | (simp <;> omega))) ?_
        refine Ls (Rdo.load rfl (Lds.one rfl)) ?_
        refine Ls (Rdo.indexArrE (i := 3) rfl rfl rfl (by first | omega | (simp <;> omega))) ?_
        refine Ls (Rdo.load rfl (Lds.one rfl)) (Ls (Rdo.move rfl) (Ls (Rdo.add rfl rfl) (Ls (Rdo.move rfl) ?_)))
        refine Ls (Rdo.indexArrE (i := 5) rfl rfl rfl (by first | omega | (simp <;> omega))) ?_
        refine Ls (Rdo.load rfl (Lds.one rfl)) ?_
        refine Ls (Rdo.indexArrE (i := 6) rfl rfl rfl (by first | omega | (simp <;> omega))) ?_
        refine Ls (Rdo.load rfl (Lds.one rfl)) (Ls (Rdo.bldArr1 rfl rfl) ?_)
        refine WpL.step (St rfl rfl (VC.ag _) ?_)
        refine WpL.nil (Blk.n (Thn.n (Wp.region (Ls (Rdo.move rfl) ?_))))
        refine Ls (Rdo.succ rfl rfl (by omega)) ?_
        refine Ls (Rdo.assign rfl) (Lnt ?_)
        exact ⟨k - 1, _, _, by omega, ⟨m + 1, by omega, rfl, rfl⟩, (by repeat (first | exact trivial | refine ⟨rfl, ?_⟩)), by rw [hdr]; exact Gk⟩
      · obtain rfl : m = 64 := by omega
        refine Wp.seq (Wsr (Ls (Rdo.move rfl) (Ls (Rdo.lti rfl rfl) (Lnt ?_))))
        refine Wp.condF rfl ?_
        refine Wp.exit ?_
        refine Thn.x ?_
        refine Thn.x ?_
        refine Blk.here ?_
        refine Thn.n (Wp.seq (Wsr (Ls (Rdo.assign rfl) (Lnt (Wp.block ?_)))))
        have hend : dBlock Kl S bs = dAdd S (dRounds Kl W S 64) := by rw [← hW]; rfl
        rw [hend]
        clear hend hW
        generalize dRounds Kl W S 64 = V at *
        refine Wp.loopE (fun k e h => ∃ i : Nat, i + k = 8 ∧ e = reE nb2 nb3 nb16 i ∧ h = reL Kl kb nb2 nb3 nb16 V (.slice (some ⟨pb, po, none⟩) bs.length c) bs (dAddL S.l V.l i)) 8
          (e0 := reE nb2 nb3 nb16 0) (l0 := reL Kl kb nb2 nb3 nb16 V (.slice (some ⟨pb, po, none⟩) bs.length c) bs (dAddL S.l V.l 0)) (by repeat (first | exact trivial | refine ⟨rfl, ?_⟩)) (by repeat (first | exact trivial | refine ⟨rfl, ?_⟩)) (by rw [dAddL_zero]; exact Gk) ⟨0, by omega, rfl, rfl⟩ ?_
        rintro k e h ⟨i, hik, rfl, rfl⟩
        by_cases hi : i < 8
        · have hi' : (i : Int) < 8 := by omega
          have hlen := dAddL_len S.l V.l i
          have w1 := at32 (dAddL S.l V.l i) i (by rw [hlen]; exact hi)
          have w2 : V.C[0 + i * 1]? = some (v32 (V.l.getD i 0)) := at32 V.l i hi
          refine Wp.seq (Wsr (Ls (Rdo.move rfl) (Ls (Rdo.lti rfl rfl) (Lnt (cK rfl (Wp.skip (Thn.n (Wp.seq (Wp.block ?_)))))))))
          refine Wp.draw (by kernel_rfl) ?_
          refine Qt (i := 0) rfl (Rdo.move rfl) (Qt (i := 1) rfl (Rdo.move rfl) ?_)
          refine Qt (i := 2) rfl (Rdo.indexArr rfl rfl (by omega)) ?_
          refine Qt (i := 4) rfl (Rdo.move rfl) ?_
          refine Qt (i := 5) rfl (Rdo.indexArr rfl rfl (by omega)) ?_
          refine WpR.phaseL (m := 3) #[true, true, true, true, true, true, true, false, false, false] 2 _ rfl (by kernel_rfl) Tk.rfl_ ?_
          refine At (i := 3) rfl (Rdo.load rfl (Lds.one (by assumption))) ?_
          refine At (i := 6) rfl (Rdo.load rfl (Lds.next (Lds.one (by assumption)))) ?_
          refine WpA.stop (by kernel_rfl) ?_
          refine WpR.lst (by simp only [List.cons_append, List.nil_append, List.append_nil]; exact rfl) ?_
          refine Qt (i := 7) rfl (Rdo.add rfl rfl) ?_
          refine Qt (i := 8) rfl (Rdo.indexArr rfl rfl (by omega)) ?_
          refine Qo (i := 9) rfl (Stp.storeV rfl rfl (VC.i _ _) rfl (Sts.here (oneCells1 rfl) ?_) ?_)
          · simp only [List.length_map, List.length_cons, List.length_nil, hlen]; omega
          rw [put32 _ _ _ (by rw [hlen]; exact hi), ← dAddL_succ]
          refine WpR.done (by kernel_rfl) ?_
          refine Blk.n (Thn.n (Wp.region (Ls (Rdo.move rfl) ?_)))
          refine Ls (Rdo.succ rfl rfl (by omega)) ?_
          refine Ls (Rdo.assign rfl) (Lnt ?_)
          exact ⟨k - 1, _, _, by omega, ⟨i + 1, by omega, rfl, rfl⟩, (by repeat (first | exact trivial | refine ⟨rfl, ?_⟩)), Gk⟩
        · obtain rfl : i = 8 := by omega
          rw [dAddL_end]
          refine Wp.seq (Wsr (Ls (Rdo.move rfl) (Ls (Rdo.lti rfl rfl) (Lnt ?_))))
          refine Wp.condF rfl ?_
          refine Wp.exit ?_
          refine Thn.x ?_
          refine Thn.x ?_
          refine Blk.here ?_
          refine Thn.n (Wsr ?_)
          refine Ls (Rdo.load rfl Ld) ?_
          refine WpL.step (St rfl rfl (VC.ag _) ?_)
          refine Lnt (Wp.ret ?_)
          refine Rt (ResV.cell rfl (by repeat (first | exact Lds.one rfl | (apply Lds.all; (first | rfl | assumption | (simp <;> fail))) | exact Lds.ione0 | exact Lds.ione rfl | (apply Lds.iall; (first | rfl | assumption | (simp <;> fail))) | apply Lds.next)) ResV.nil) ⟨rfl, rfl⟩
end Go.Proofs.YtccgdnocldmjeaaGreatDoor
