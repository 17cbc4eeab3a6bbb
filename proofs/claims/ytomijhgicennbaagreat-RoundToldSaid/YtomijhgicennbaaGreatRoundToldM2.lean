/- Walks, rules and plain laws on which the claim stands, joined: the program's functions as they compute, one after the other. -/
import Derived.Orders
import Derived.Below
import Derived.Tactics
import Derived.Laws.AppendOwn
import Derived.Laws.CopyRow
import Derived.Laws.ResultCell
import Derived.Laws.Slices
import Derived.Laws.Small
import Derived.Laws.StructEq
import Derived.Laws.Pointers
import Derived.Laws.Unary
import Derived.Laws.Cells
import Derived.OrdersIn
import Derived.RangeFuncRecord
import Derived.RangeFuncIn
import Derived.RangeFuncCalls
import Derived.RangeFuncNested
import Derived.Laws.Cover3
import Derived.Laws.BytesString
import Derived.Laws.Strings
import Derived.Test.YtomijhgicennbaaGreatProg
import Derived.KernelRfl
import Derived.Laws.IdiomStrings
import Derived.OpenShut
import Derived.ChangeSlices
import Derived.DataElems
import Derived.Handed
import Derived.DeepKeys
import Derived.Laws.Shifts
import Derived.Laws.MakeOwn
import Derived.Laws.BitsAllLaws
import Derived.Test.YtomijhgicennbaaGreatRows
import Derived.WalkKit
import Derived.ProofKit
import Derived.ShutString
import Derived.ChangeOld
import Derived.Lay
import Derived.MakeChecks
import Derived.Test.YtomijhgicennbaaGreatRoundToldM1
namespace Go.Proofs.YtomijhgicennbaaGreat
open Go
-- 1: func()
-- 2: int64
-- 3: int
instance : SZ Tryz.prog 3 1 := ⟨by kernel_rfl⟩
instance : BY Tryz.prog 3 8 := ⟨by kernel_rfl⟩
instance : AG Tryz.prog 3 false := ⟨by kernel_rfl⟩
instance : IK Tryz.prog 3 .i64 := ⟨by kernel_rfl⟩
instance : ZV Tryz.prog 3 ([.int .i64 0]) := ⟨by kernel_rfl⟩
-- 4: bool
instance : SZ Tryz.prog 4 1 := ⟨by kernel_rfl⟩
instance : AG Tryz.prog 4 false := ⟨by kernel_rfl⟩
instance : ZV Tryz.prog 4 ([.bool false]) := ⟨by kernel_rfl⟩
-- 5: uint8
instance : SZ Tryz.prog 5 1 := ⟨by kernel_rfl⟩
instance : BY Tryz.prog 5 1 := ⟨by kernel_rfl⟩
instance : AG Tryz.prog 5 false := ⟨by kernel_rfl⟩
instance : IK Tryz.prog 5 .u8 := ⟨by kernel_rfl⟩
instance : ZV Tryz.prog 5 ([.int .u8 0]) := ⟨by kernel_rfl⟩
-- 9: string
instance : ST Tryz.prog 9 := ⟨by kernel_rfl⟩
-- 12: uintptr
-- 13: struct { msg string; addr uintptr }
-- 20: interface {}
-- 21: int32
-- 22: []uint8
instance : SZ Tryz.prog 22 1 := ⟨by kernel_rfl⟩
instance : BY Tryz.prog 22 24 := ⟨by kernel_rfl⟩
instance : AG Tryz.prog 22 false := ⟨by kernel_rfl⟩
instance : EL Tryz.prog 22 5 := ⟨by kernel_rfl⟩
instance : NI Tryz.prog 22 := ⟨by kernel_rfl⟩
instance : ZV Tryz.prog 22 ([.slice none 0 0]) := ⟨by kernel_rfl⟩
-- 23: *round.Round
instance : AG Tryz.prog 23 false := ⟨by kernel_rfl⟩
instance : PT Tryz.prog 23 100 := ⟨by kernel_rfl⟩
-- 24: func(*seal.Ring, int, int) *round.Round
-- 25: *seal.Ring
instance : AG Tryz.prog 25 false := ⟨by kernel_rfl⟩
instance : PT Tryz.prog 25 103 := ⟨by kernel_rfl⟩
-- 26: func(int, api.Hash) *seal.Ring
-- 27: [32]uint8
-- 28: api.Hash
instance : SZ Tryz.prog 28 32 := ⟨by kernel_rfl⟩
instance : BY Tryz.prog 28 32 := ⟨by kernel_rfl⟩
instance : AG Tryz.prog 28 true := ⟨by kernel_rfl⟩
instance : AR Tryz.prog 28 32 5 := ⟨by kernel_rfl⟩
instance : ZV Tryz.prog 28 (List.replicate 32 (.int .u8 0)) := ⟨by kernel_rfl⟩
-- 29: []api.Msg
instance : SZ Tryz.prog 29 1 := ⟨by kernel_rfl⟩
instance : AG Tryz.prog 29 false := ⟨by kernel_rfl⟩
instance : EL Tryz.prog 29 34 := ⟨by kernel_rfl⟩
instance : NI Tryz.prog 29 := ⟨by kernel_rfl⟩
instance : ZV Tryz.prog 29 ([.slice none 0 0]) := ⟨by kernel_rfl⟩
-- 30: func([]uint8) []api.Msg
-- 31: func() bool
-- 32: []api.Vote
instance : SZ Tryz.prog 32 1 := ⟨by kernel_rfl⟩
instance : AG Tryz.prog 32 false := ⟨by kernel_rfl⟩
instance : EL Tryz.prog 32 44 := ⟨by kernel_rfl⟩
instance : NI Tryz.prog 32 := ⟨by kernel_rfl⟩
-- 33: struct { Kind int; From int; To int; Slot int; View int; Val
-- 34: api.Msg
instance : SZ Tryz.prog 34 39 := ⟨by kernel_rfl⟩
instance : BY Tryz.prog 34 120 := ⟨by kernel_rfl⟩
instance : AG Tryz.prog 34 true := ⟨by kernel_rfl⟩
instance : FS Tryz.prog 34 := ⟨by kernel_rfl⟩
instance : FO Tryz.prog 34 0 0 1 := ⟨by kernel_rfl, rfl⟩
instance : FO Tryz.prog 34 1 1 1 := ⟨by kernel_rfl, rfl⟩
instance : FO Tryz.prog 34 2 2 1 := ⟨by kernel_rfl, rfl⟩
instance : FO Tryz.prog 34 3 3 1 := ⟨by kernel_rfl, rfl⟩
instance : FO Tryz.prog 34 4 4 1 := ⟨by kernel_rfl, rfl⟩
instance : FO Tryz.prog 34 5 5 1 := ⟨by kernel_rfl, rfl⟩
instance : FO Tryz.prog 34 6 6 1 := ⟨by kernel_rfl, rfl⟩
instance : FO Tryz.prog 34 7 7 32 := ⟨by kernel_rfl, rfl⟩
instance : ZZ Tryz.prog 34 (.agg [.int .i64 0, .int .i64 0, .int .i64 0, .int .i64 0, .int .i64 0, .slice none 0 0, .slice none 0 0, .int .u8 0, .int .u8 0, .int .u8 0, .int .u8 0, .int .u8 0, .int .u8 0, .int .u8 0, .int .u8 0, .int .u8 0, .int .u8 0, .int .u8 0, .int .u8 0, .int .u8 0, .int .u8 0, .int .u8 0, .int .u8 0, .int .u8 0, .int .u8 0, .int .u8 0, .int .u8 0, .int .u8 0, .int .u8 0, .int .u8 0, .int .u8 0, .int .u8 0, .int .u8 0, .int .u8 0, .int .u8 0, .int .u8 0, .int .u8 0, .int .u8 0, .int .u8 0].toArray) := ⟨by kernel_rfl⟩
instance : ZV Tryz.prog 34 ([.int .i64 0, .int .i64 0, .int .i64 0, .int .i64 0, .int .i64 0, .slice none 0 0, .slice none 0 0] ++ (List.replicate 32 (.int .u8 0))) := ⟨by kernel_rfl⟩
-- 35: func(int, int, []uint8) bool
-- 36: func() []api.Msg
-- 37: func() int
-- 38: func(int, int, int) bool
-- 39: *seneschalref4.Ring
-- 40: func(int, api.Hash) *seneschalref4.Ring
-- 41: func(api.Msg) []api.Msg
-- 42: func(*seneschalref4.Ring, api.Msg) api.Msg
-- 43: struct { Kind int; Slot int; View int; Sum api.Hash; From in
-- 44: api.Vote
instance : SZ Tryz.prog 44 68 := ⟨by kernel_rfl⟩
instance : BY Tryz.prog 44 96 := ⟨by kernel_rfl⟩
instance : AG Tryz.prog 44 true := ⟨by kernel_rfl⟩
instance : FS Tryz.prog 44 := ⟨by kernel_rfl⟩
instance : FO Tryz.prog 44 0 0 1 := ⟨by kernel_rfl, rfl⟩
instance : FO Tryz.prog 44 1 1 1 := ⟨by kernel_rfl, rfl⟩
instance : FO Tryz.prog 44 2 2 1 := ⟨by kernel_rfl, rfl⟩
instance : FO Tryz.prog 44 3 3 32 := ⟨by kernel_rfl, rfl⟩
instance : FO Tryz.prog 44 4 35 1 := ⟨by kernel_rfl, rfl⟩
instance : FO Tryz.prog 44 5 36 32 := ⟨by kernel_rfl, rfl⟩
instance : ZV Tryz.prog 44 ([.int .i64 0, .int .i64 0, .int .i64 0] ++ (List.replicate 32 (.int .u8 0) ++ ([.int .i64 0] ++ (List.replicate 32 (.int .u8 0))))) := ⟨by kernel_rfl⟩
-- 45: func([]uint8) api.Hash
-- 46: func([]uint8, []uint8, int) bool
-- 47: func(int, []uint8) api.Hash
-- 48: func(api.Msg) []uint8
-- 49: func(int, []uint8, api.Hash) bool
-- 51: func() ([]uint8, []api.Vote, bool)
-- 52: struct { View int; Value []uint8; Votes []api.Vote }
-- 53: rule.Lock
instance : SZ Tryz.prog 53 3 := ⟨by kernel_rfl⟩
instance : AG Tryz.prog 53 true := ⟨by kernel_rfl⟩
instance : FS Tryz.prog 53 := ⟨by kernel_rfl⟩
instance : FO Tryz.prog 53 0 0 1 := ⟨by kernel_rfl, rfl⟩
instance : FO Tryz.prog 53 1 1 1 := ⟨by kernel_rfl, rfl⟩
instance : FO Tryz.prog 53 2 2 1 := ⟨by kernel_rfl, rfl⟩
instance : ZV Tryz.prog 53 ([.int .i64 0, .slice none 0 0, .slice none 0 0]) := ⟨by kernel_rfl⟩
-- 54: func() rule.Lock
-- 55: func(api.Msg, int) bool
-- 56: []seneschallaw8.Move
-- 57: func([]seneschallaw8.Move) bool
-- 58: *seneschallaw8.four
-- 59: func(int, bool) *seneschallaw8.four
-- 60: struct { Kind int; Node int; N int; Value []uint8; M api.Msg
-- 61: seneschallaw8.Move
-- 62: func(seneschallaw8.Move) bool
-- 63: [4]*round.Round
-- 64: *seneschalref8.Round
-- 65: [4]*seneschalref8.Round
-- 66: struct { x [4]*round.Round; y [4]*seneschalref8.Round; ring
-- 67: seneschallaw8.four
-- 68: func(int) bool
instance : AG Tryz.prog 68 false := ⟨by kernel_rfl⟩
-- 69: func(*seneschalref4.Ring, []api.Vote, int, int, int, api.Has
-- 70: func(int, bool, []seneschallaw8.Move) bool
-- 71: []int
instance : SZ Tryz.prog 71 1 := ⟨by kernel_rfl⟩
instance : AG Tryz.prog 71 false := ⟨by kernel_rfl⟩
instance : EL Tryz.prog 71 3 := ⟨by kernel_rfl⟩
instance : NI Tryz.prog 71 := ⟨by kernel_rfl⟩
instance : ZV Tryz.prog 71 ([.slice none 0 0]) := ⟨by kernel_rfl⟩
-- 72: func(int, []uint8, []int) bool
-- 73: func(int, []seneschallaw8.Move, []uint8) bool
-- 74: func(*seneschalref4.Ring, int, int, int, api.Hash, int) api.
-- 75: func([]api.Vote, []api.Vote) bool
-- 76: func(int, int, int, []uint8) bool
-- 77: func(api.Msg, []uint8) bool
-- 78: func(api.Msg, []uint8, []uint8) bool
-- 79: []seneschallaw8.Act
-- 80: func([]seneschallaw8.Act) bool
-- 81: func(*seneschalref4.Ring, int, int) *seneschalref8.Round
-- 82: func(*round.Round, *seneschalref8.Round, seneschallaw8.Act)
-- 83: struct { Kind int; Value []uint8; M api.Msg }
-- 84: seneschallaw8.Act
-- 85: seneschalref7.Lock
-- 86: [][]uint8
instance : SZ Tryz.prog 86 1 := ⟨by kernel_rfl⟩
instance : AG Tryz.prog 86 false := ⟨by kernel_rfl⟩
instance : EL Tryz.prog 86 22 := ⟨by kernel_rfl⟩
instance : NI Tryz.prog 86 := ⟨by kernel_rfl⟩
-- 87: struct { R *seneschalref4.Ring; Me int; Slot int; V int; K s
-- 88: seneschalref8.Round
-- 89: func(rule.Lock, seneschalref7.Lock) bool
-- 90: func(int, int, []seneschallaw8.Act) bool
-- 91: *hold.Table[seneschal/api.Msg]
instance : AG Tryz.prog 91 false := ⟨by kernel_rfl⟩
instance : PT Tryz.prog 91 126 := ⟨by kernel_rfl⟩
instance : ZZ Tryz.prog 91 (.pointer none) := ⟨by kernel_rfl⟩
-- 92: func() *hold.Table[seneschal/api.Msg]
-- 93: *hold.Table[*seneschal/hold.Table[seneschal/api.Msg]]
instance : AG Tryz.prog 93 false := ⟨by kernel_rfl⟩
instance : PT Tryz.prog 93 129 := ⟨by kernel_rfl⟩
-- 94: func() *hold.Table[*seneschal/hold.Table[seneschal/api.Msg]]
-- 95: *hold.Table[*seneschal/round.ballot]
instance : SZ Tryz.prog 95 1 := ⟨by kernel_rfl⟩
instance : AG Tryz.prog 95 false := ⟨by kernel_rfl⟩
instance : PT Tryz.prog 95 132 := ⟨by kernel_rfl⟩
-- 96: func() *hold.Table[*seneschal/round.ballot]
-- 97: *round.ballot
instance : AG Tryz.prog 97 false := ⟨by kernel_rfl⟩
instance : PT Tryz.prog 97 189 := ⟨by kernel_rfl⟩
instance : ZZ Tryz.prog 97 (.pointer none) := ⟨by kernel_rfl⟩
-- 98: [2]*hold.Table[*seneschal/round.ballot]
instance : AR Tryz.prog 98 2 95 := ⟨by kernel_rfl⟩
instance : ZV Tryz.prog 98 ([.pointer none, .pointer none]) := ⟨by kernel_rfl⟩
-- 99: struct { r *seal.Ring; me int; slot int; view int; lock rule
-- 100: round.Round
instance : FS Tryz.prog 100 := ⟨by kernel_rfl⟩
instance : FO Tryz.prog 100 0 0 1 := ⟨by kernel_rfl, rfl⟩
instance : FO Tryz.prog 100 1 1 1 := ⟨by kernel_rfl, rfl⟩
instance : FO Tryz.prog 100 2 2 1 := ⟨by kernel_rfl, rfl⟩
instance : FO Tryz.prog 100 3 3 1 := ⟨by kernel_rfl, rfl⟩
instance : FO Tryz.prog 100 4 4 3 := ⟨by kernel_rfl, rfl⟩
instance : FO Tryz.prog 100 5 7 1 := ⟨by kernel_rfl, rfl⟩
instance : FO Tryz.prog 100 6 8 1 := ⟨by kernel_rfl, rfl⟩
instance : FO Tryz.prog 100 7 9 1 := ⟨by kernel_rfl, rfl⟩
instance : FO Tryz.prog 100 8 10 2 := ⟨by kernel_rfl, rfl⟩
instance : FO Tryz.prog 100 9 12 1 := ⟨by kernel_rfl, rfl⟩
instance : FO Tryz.prog 100 10 13 1 := ⟨by kernel_rfl, rfl⟩
instance : FO Tryz.prog 100 11 14 1 := ⟨by kernel_rfl, rfl⟩
instance : FO Tryz.prog 100 12 15 1 := ⟨by kernel_rfl, rfl⟩
instance : FO Tryz.prog 100 13 16 1 := ⟨by kernel_rfl, rfl⟩
instance : FO Tryz.prog 100 14 17 1 := ⟨by kernel_rfl, rfl⟩
instance : FO Tryz.prog 100 15 18 1 := ⟨by kernel_rfl, rfl⟩
instance : ZV Tryz.prog 100 ([.pointer none, .int .i64 0, .int .i64 0, .int .i64 0, .int .i64 0, .slice none 0 0, .slice none 0 0, .slice none 0 0, .pointer none, .slice none 0 0, .pointer none, .pointer none, .pointer none, .int .i64 0, .int .i64 0, .int .i64 0, .slice none 0 0, .slice none 0 0, .bool false]) := ⟨by kernel_rfl⟩
-- 101: []api.Hash
instance : SZ Tryz.prog 101 1 := ⟨by kernel_rfl⟩
instance : AG Tryz.prog 101 false := ⟨by kernel_rfl⟩
instance : EL Tryz.prog 101 28 := ⟨by kernel_rfl⟩
instance : NI Tryz.prog 101 := ⟨by kernel_rfl⟩
-- 102: struct { keys []api.Hash }
-- 103: seal.Ring
instance : FS Tryz.prog 103 := ⟨by kernel_rfl⟩
instance : FO Tryz.prog 103 0 0 1 := ⟨by kernel_rfl, rfl⟩
instance : ZV Tryz.prog 103 ([.slice none 0 0]) := ⟨by kernel_rfl⟩
-- 104: func([]uint8) []uint8
-- 105: func(int, int, int) int
-- 106: func(api.Msg)
-- 107: func(api.Msg, int) api.Msg
-- 108: struct { K []api.Hash }
-- 109: seneschalref4.Ring
instance : FS Tryz.prog 109 := ⟨by kernel_rfl⟩
instance : FO Tryz.prog 109 0 0 1 := ⟨by kernel_rfl, rfl⟩
instance : ZV Tryz.prog 109 ([.slice none 0 0]) := ⟨by kernel_rfl⟩
-- 110: func(api.Hash, []uint8) api.Hash
-- 111: func(api.Msg) bool
-- 112: func(api.Msg) api.Msg
-- 113: func([]uint8, []uint8) api.Hash
-- 114: func(...int) []uint8
-- 115: func([]api.Vote) []uint8
-- 116: func([]api.Vote) []api.Vote
-- 117: func([]api.Msg)
-- 118: func([]api.Msg, []api.Msg) bool
-- 119: func(api.Msg, int, int)
-- 120: func(*seneschalref4.Ring, []api.Vote, int, int, int, api.Has
-- 121: func(int) int
-- 122: func(api.Vote) []uint8
-- 123: func() seneschalref7.Lock
-- 124: map[int]api.Msg
instance : AG Tryz.prog 124 false := ⟨by kernel_rfl⟩
instance : MP Tryz.prog 124 3 34 := ⟨by kernel_rfl⟩
-- 125: struct { m map[int]api.Msg }
-- 126: hold.Table[seneschal/api.Msg]
instance : FS Tryz.prog 126 := ⟨by kernel_rfl⟩
instance : FO Tryz.prog 126 0 0 1 := ⟨by kernel_rfl, rfl⟩
instance : ZV Tryz.prog 126 ([.map none]) := ⟨by kernel_rfl⟩
-- 127: map[int]*hold.Table[seneschal/api.Msg]
instance : AG Tryz.prog 127 false := ⟨by kernel_rfl⟩
instance : MP Tryz.prog 127 3 91 := ⟨by kernel_rfl⟩
-- 128: struct { m map[int]*hold.Table[seneschal/api.Msg] }
-- 129: hold.Table[*seneschal/hold.Table[seneschal/api.Msg]]
instance : FS Tryz.prog 129 := ⟨by kernel_rfl⟩
instance : FO Tryz.prog 129 0 0 1 := ⟨by kernel_rfl, rfl⟩
instance : ZV Tryz.prog 129 ([.map none]) := ⟨by kernel_rfl⟩
-- 130: map[int]*round.ballot
instance : AG Tryz.prog 130 false := ⟨by kernel_rfl⟩
instance : MP Tryz.prog 130 3 97 := ⟨by kernel_rfl⟩
-- 131: struct { m map[int]*round.ballot }
-- 132: hold.Table[*seneschal/round.ballot]
instance : FS Tryz.prog 132 := ⟨by kernel_rfl⟩
instance : FO Tryz.prog 132 0 0 1 := ⟨by kernel_rfl, rfl⟩
instance : ZV Tryz.prog 132 ([.map none]) := ⟨by kernel_rfl⟩
-- 133: uint32
instance : SZ Tryz.prog 133 1 := ⟨by kernel_rfl⟩
instance : AG Tryz.prog 133 false := ⟨by kernel_rfl⟩
instance : IK Tryz.prog 133 .u32 := ⟨by kernel_rfl⟩
-- 134: [8]uint32
instance : SZ Tryz.prog 134 8 := ⟨by kernel_rfl⟩
instance : AG Tryz.prog 134 true := ⟨by kernel_rfl⟩
instance : AR Tryz.prog 134 8 133 := ⟨by kernel_rfl⟩
instance : ZV Tryz.prog 134 (List.replicate 8 (.int .u32 0)) := ⟨by kernel_rfl⟩
-- 135: digest.state
instance : SZ Tryz.prog 135 8 := ⟨by kernel_rfl⟩
instance : AG Tryz.prog 135 true := ⟨by kernel_rfl⟩
instance : AR Tryz.prog 135 8 133 := ⟨by kernel_rfl⟩
instance : ZV Tryz.prog 135 (List.replicate 8 (.int .u32 0)) := ⟨by kernel_rfl⟩
-- 136: [64]uint32
instance : SZ Tryz.prog 136 64 := ⟨by kernel_rfl⟩
instance : AG Tryz.prog 136 true := ⟨by kernel_rfl⟩
instance : AR Tryz.prog 136 64 133 := ⟨by kernel_rfl⟩
instance : ZV Tryz.prog 136 (List.replicate 64 (.int .u32 0)) := ⟨by kernel_rfl⟩
-- 137: func() [64]uint32
-- 138: func([]uint8, *[64]uint32)
-- 139: *[64]uint32
-- 140: [128]uint8
instance : AR Tryz.prog 140 128 5 := ⟨by kernel_rfl⟩
instance : ZV Tryz.prog 140 (List.replicate 128 (.int .u8 0)) := ⟨by kernel_rfl⟩
-- 141: uint64
instance : IK Tryz.prog 141 .u64 := ⟨by kernel_rfl⟩
-- 142: uint
instance : IK Tryz.prog 142 .u64 := ⟨by kernel_rfl⟩
-- 143: func() ([]api.Msg, bool)
instance : SZ Tryz.prog 143 1 := ⟨by kernel_rfl⟩
instance : AG Tryz.prog 143 false := ⟨by kernel_rfl⟩
instance : ZV Tryz.prog 143 ([.nilFunc]) := ⟨by kernel_rfl⟩
-- 144: []func() ([]api.Msg, bool)
instance : EL Tryz.prog 144 143 := ⟨by kernel_rfl⟩
-- 146: func(int, int) bool
-- 148: func(int) (*hold.Table[seneschal/api.Msg], bool)
-- 149: func(int, *hold.Table[seneschal/api.Msg])
-- 151: func(int) (api.Msg, bool)
-- 152: func(int, api.Msg)
-- 153: api.Errno
-- 155: func(api.Msg) ([]uint8, api.Errno)
-- 156: func([]uint8)
-- 157: func(*seal.Ring, api.Vote) bool
-- 158: func(api.Vote)
-- 159: func(*seal.Ring, []api.Vote, int, int, int, api.Hash) bool
-- 160: func([]uint8, []api.Vote)
-- 161: func([8]uint32, []uint8, *[64]uint32) [8]uint32
-- 162: func(int) []uint8
-- 163: func(api.Msg, api.Msg) bool
-- 164: func(api.Vote) bool
-- 165: func(*seneschalref4.Ring, api.Vote) bool
-- 166: *digest.state
-- 167: func(uint32) uint32
-- 168: func(uint32, uint32, uint32) uint32
-- 169: func(func(int, *round.ballot) bool)
-- 170: iter.Seq2[int,*seneschal/round.ballot]
-- 171: func() iter.Seq2[int,*seneschal/round.ballot]
-- 172: func(*round.ballot) ([]uint8, []api.Vote, bool)
-- 173: func(*seal.Ring, rule.Lock, int, int, []uint8, []api.Vote) b
-- 174: func(int, []uint8) []api.Msg
-- 175: func(int, int) *round.ballot
-- 176: struct { b []uint8 }
-- 177: octet.Writer
instance : FO Tryz.prog 177 0 0 1 := ⟨by kernel_rfl, rfl⟩
instance : ZV Tryz.prog 177 ([.slice none 0 0]) := ⟨by kernel_rfl⟩
-- 178: func(...int)
-- 179: func(...[]uint8)
-- 180: func(*octet.Writer, func(*octet.Writer, api.Vote), []api.Vot
-- 181: *octet.Writer
instance : PT Tryz.prog 181 177 := ⟨by kernel_rfl⟩
-- 182: func(*octet.Writer, api.Vote)
-- 183: func() []uint8
-- 184: func(...uint8)
-- 185: func([][]uint8, func([]uint8) bool) bool
-- 186: func([]uint8, []uint8) bool
-- 187: func([]uint8) bool
-- 188: struct { votes []api.Vote }
-- 189: round.ballot
instance : FS Tryz.prog 189 := ⟨by kernel_rfl⟩
instance : FO Tryz.prog 189 0 0 1 := ⟨by kernel_rfl, rfl⟩
instance : ZV Tryz.prog 189 ([.slice none 0 0]) := ⟨by kernel_rfl⟩
-- 190: func(int, *round.ballot)
-- 191: func(api.Hash, int) bool
-- 192: func(*seal.Ring, []api.Vote, int, int, int, api.Hash) []int
-- 193: func(uint32, uint) uint32
-- 194: func(func(int) bool) iter.Seq2[int,*seneschal/round.ballot]
-- 195: func(iter.Seq[seneschal/api.Vote], func(api.Vote, api.Vote)
-- 196: func(func(api.Vote) bool)
-- 197: iter.Seq[seneschal/api.Vote]
-- 198: func(api.Hash) iter.Seq[seneschal/api.Vote]
-- 199: func(api.Vote, api.Vote) int
-- 201: func(*seal.Ring, []api.Vote, int, int, []uint8) (int, bool)
-- 202: func(*seal.Ring, int, int, int, api.Hash, int) api.Vote
-- 204: func(int) (*round.ballot, bool)
-- 205: func(func(int, api.Msg) bool)
-- 206: iter.Seq2[int,seneschal/api.Msg]
-- 207: func() iter.Seq2[int,seneschal/api.Msg]
-- 208: func(*seal.Ring, int, int, rule.Lock, rule.Lock) rule.Lock
-- 209: [64]uint8
instance : SZ Tryz.prog 209 64 := ⟨by kernel_rfl⟩
instance : AG Tryz.prog 209 true := ⟨by kernel_rfl⟩
instance : AR Tryz.prog 209 64 5 := ⟨by kernel_rfl⟩
instance : ZV Tryz.prog 209 (List.replicate 64 (.int .u8 0)) := ⟨by kernel_rfl⟩
-- 210: func(uint8, []uint8) api.Hash
-- 211: func([]api.Vote, func(api.Vote) bool) bool
-- 212: func([][]uint8, func([]uint8) bool) int
-- 213: func(func(int) bool)
-- 214: iter.Seq[int]
-- 215: func(*seal.Ring, []api.Vote, int, int, int, api.Hash) iter.S
-- 216: func([]int, int) bool
-- 217: func([]int)
-- 218: func(int, int) ([]uint8, []api.Vote, bool)
-- 219: func(*seneschalref4.Ring, seneschalref7.Lock, int, int, []ui
-- 220: func(int, api.Hash)
-- 221: func(int, *round.ballot) bool
-- 222: func(map[int]*round.ballot) map[int]*round.ballot
-- 223: func(iter.Seq[int]) []int
-- 224: func(map[int]*round.ballot) iter.Seq[int]
-- 225: func(iter.Seq[seneschal/api.Vote]) []api.Vote
-- 226: func([]api.Vote, func(api.Vote, api.Vote) int)
-- 227: func(func(int) bool) iter.Seq2[int,seneschal/api.Msg]
-- 228: func(*seal.Ring, int, int, rule.Lock) rule.Lock
-- 229: func([]api.Vote, func(api.Vote) bool) int
-- 230: func([]int, int) int
-- 231: func([]int, int, int, int)
-- 232: func(uint) int
-- 233: func(*seneschalref4.Ring, []api.Vote, int, int, []uint8) (in
-- 234: func(*seneschalref4.Ring, int, int, seneschalref7.Lock, sene
-- 235: func(interface {}) interface {}
-- 236: func([]api.Vote, iter.Seq[seneschal/api.Vote]) []api.Vote
-- 237: func([]api.Vote, int, int, int, func(api.Vote, api.Vote) int
-- 238: func(int, api.Msg) bool
-- 239: func(map[int]api.Msg) map[int]api.Msg
-- 240: func(map[int]api.Msg) iter.Seq[int]
-- 241: func([]int, int, int)
-- 242: slices.sortedHint
-- 244: func([]int, int, int) (int, slices.sortedHint)
-- 245: func([]int, int, int) bool
-- 246: func([]int, int, int, int) int
-- 247: func([]int, int, int, int) (int, bool)
-- 248: func(uint32) int
-- 249: func(uint64) int
-- 250: func([]int, iter.Seq[int]) []int
-- 251: func([]api.Vote, int, int, func(api.Vote, api.Vote) int)
-- 252: func([]api.Vote, int, int, func(api.Vote, api.Vote) int) (in
-- 253: func([]api.Vote, int, int, func(api.Vote, api.Vote) int) boo
-- 254: func([]api.Vote, int, int, int, func(api.Vote, api.Vote) int
-- 255: func([]api.Vote, int, int, int, func(api.Vote, api.Vote) int
-- 256: slices.xorshift
-- 257: func(int) uint
-- 258: func() uint64
-- 259: func([]int, int, *int) int
-- 260: *int
-- 261: func([]int, int, int, int, *int) int
-- 262: func([]api.Vote, int, *int, func(api.Vote, api.Vote) int) in
-- 263: func([]api.Vote, int, int, int, *int, func(api.Vote, api.Vot
-- 264: *slices.xorshift
-- 266: func([]int, int, int, *int) (int, int)
-- 267: func([]api.Vote, int, int, *int, func(api.Vote, api.Vote) in
-- 268: func() string
-- 271: [0]*runtime.PanicNilError
-- 276: func(unsafe.Pointer, unsafe.Pointer) bool
-- 277: *uint8
-- 282: func() iter.Seq2[int,*seneschal/hold.Table[seneschal/api.Msg
-- 283: func(func(int) bool) iter.Seq2[int,*seneschal/hold.Table[sen
-- 285: func(func(int, *hold.Table[seneschal/api.Msg]) bool)
-- 286: iter.Seq2[int,*seneschal/hold.Table[seneschal/api.Msg]]
-- 287: func(int, *hold.Table[seneschal/api.Msg]) bool
end Go.Proofs.YtomijhgicennbaaGreat
namespace Go.Proofs.YtomijhgicennbaaGreat
open Go
set_option maxHeartbeats 4000000
set_option linter.unusedSimpArgs false
set_option linter.unusedVariables false
set_option maxRecDepth 20000
abbrev RdBytes (g : FH) (v : Value) (bs : List UInt8) : Prop := RdRow g 1 v bs.length (bytesC bs)
theorem bytesC_length (bs : List UInt8) : (bytesC bs).length = bs.length := by simp [bytesC]
theorem oneCells_bytesC (bs : List UInt8) : oneCells (bytesC bs) := by
  intro v hv
  obtain ⟨b, _, rfl⟩ := List.mem_map.1 hv
  rfl
theorem shape_bytes {v : Value} {bs : List UInt8} (r : Res) (h : fz (fun g => RdBytes g v bs) r) : ∃ a c, v = .slice a bs.length c := by
  unfold fz at h
  obtain ⟨_, a, c, h2, _⟩ := h
  exact ⟨a, c, h2⟩
theorem nil_bytes {n c : Nat} {bs : List UInt8} (r : Res) (h : fz (fun g => RdBytes g (.slice none n c) bs) r) : bs = [] := by
  unfold fz at h
  obtain ⟨_, a, c', h2, h3⟩ := h
  simp only [Value.slice.injEq] at h2
  obtain ⟨rfl, rfl, rfl⟩ := h2
  rcases h3 with h3 | ⟨b, o, h3, _⟩
  · exact List.eq_nil_of_length_eq_zero h3
  · cases h3
theorem Gh.noBytes {l : List HP} {a : Option Addr} {c : Nat} : Gh l (fz (fun g => RdBytes g (.slice a 0 c) []) :: l) := Gh.fzTrue fun g => RdRow.nil g 1 a c
theorem bytesClone_ok (v : Value) (bs : List UInt8) (hb : bs.length ≤ 1099511627776) :
    Trip Tryz.prog 46 [v] [fz (fun g => RdBytes g v bs)] (fun r l => ∃ a c, r = .slice a bs.length c ∧ l = [fz (fun g => RdBytes g (.slice a bs.length c) bs), fz (fun g => RdBytes g v bs)]) := by
  refine Trip.get Pk.here shape_bytes ?_
  rintro ⟨a, c, rfl⟩
  cases a with
  | none =>
    refine Trip.get Pk.here nil_bytes ?_
    rintro rfl
    refine Trip.of_body Tryz.func46 rfl Tryz.ntmps46 Tryz.results46 rfl ?_
    refine Wsr (Ls (Rdo.assign rfl) (Lnt (Wp.seq (Wsr (Ls (Rdo.move rfl) (Ls (Rdo.eqslnil rfl rfl) (Lnt ?_)))))))
    refine Wp.condT rfl ?_
    refine Wsr (Ls (Rdo.assign rfl) (Lnt (Wp.ret ?_)))
    refine Thn.r ?_
    exact Ret.now (ResV.tmp rfl ResV.nil) Gh.noBytes ⟨none, 0, rfl, rfl⟩
  | some a =>
    refine Trip.of_body Tryz.func46 rfl Tryz.ntmps46 Tryz.results46 rfl ?_
    refine Wsr (Ls (Rdo.assign rfl) (Lnt (Wp.seq (Wsr (Ls (Rdo.move rfl) (Ls (Rdo.eqslnil rfl rfl) (Lnt ?_)))))))
    refine Wp.condF rfl ?_
    refine Wp.skip (Thn.n (Wsr ?_))
    refine WpL.step (Stp.slice (ps := []) (vs := []) (cs := []) rfl rfl (by simp) (by simp) (by omega) rfl ?_)
    intro b
    refine WpL.gh (Gh.row (n := 0) (sz := 1) Pk.here (by simp)) ?_
    refine Ls (Rdo.move rfl) ?_
    refine WpL.step (Stp.append0 rfl rfl Src.frozen (by simp [bytesC_length]) (oneCells_bytesC bs) (by omega) (by omega) rfl (by rfl) ?_)
    intro a' c'
    refine Ls (Rdo.assign rfl) (Lnt (Wp.ret ?_))
    exact Ret.now (ResV.tmp rfl ResV.nil) (Gh.ice Pk.here) ⟨_, _, rfl, rfl⟩
end Go.Proofs.YtomijhgicennbaaGreat
namespace Go.Proofs.YtomijhgicennbaaGreat
open Go
set_option maxHeartbeats 4000000
set_option linter.unusedSimpArgs false
set_option linter.unusedVariables false
/-- Bytes that were written out, as a constant's. -/
theorem Stp.convBytes {P : Program} {n d b m c : Nat} {x : Operand} {t t' e' ty : TypeId} {pos : String} {after : Array Edge} {g : Option (Nat × Bool)} {e : Env} {l rest : List HP} {Φ : Env → List HP → Prop} {cs : List Value}
    [ht : EL P t e'] [he' : IK P e' .u8] (hx : evl e x = some (.slice (some ⟨b, 0, none⟩) m c)) (hd : Nat.blt d n = true) (hp : Pk l (cel b t' cs) rest) (hm : cs.length = m) (hmc : Nat.ble m c = true)
    (hk : Φ (eset e d (.slice (some ⟨b, 0, none⟩) m c)) (fz (fun g => RdRow g 1 (.slice (some ⟨b, 0, none⟩) m c) m cs) :: rest)) :
    Stp P n ⟨some d, .convert t t x, ty, pos, after, g⟩ e l Φ := by
  unfold Stp
  intro F w a ds hl he K Q0 hK
  unfold Pk at hp
  have h1 := hl.perm hp
  have hb := cel_sees h1
  have hlt : b < w.heap.size := (Array.getElem?_eq_some_iff.1 hb).1
  have hsh : w.shape? b = some (t', cs.toArray.size) := by
    unfold World.shape?
    rw [hb]
  have hr : (convert t t (.slice (some ⟨b, 0, none⟩) m c)).run P w = .ok (.slice (some ⟨b, 0, none⟩) m c) (w.freeze ⟨b, cs.toArray.size, none⟩ 1) := by
    simp [convert, run_underlying ht.pf, run_underlying he'.pf, markStringish, hsh]
  have hb2 : (w.freeze ⟨b, cs.toArray.size, none⟩ 1).heap[b]? = some (.cells cs.toArray t' (cs.toArray.size, cs.toArray.size + 1)) := by
    unfold World.freeze
    rw [if_neg (by decide)]
    simp only [Array.getElem?_modify]
    rw [hb]
    simp
  have hold : ∀ k, k ≠ b → (w.freeze ⟨b, cs.toArray.size, none⟩ 1).heap[k]? = w.heap[k]? := by
    intro k hk
    unfold World.freeze
    rw [if_neg (by decide)]
    simp only [Array.getElem?_modify]
    rw [if_neg (fun h => hk h.symm)]
  have hh : Holds (fz (fun g => RdRow g 1 (.slice (some ⟨b, 0, none⟩) m c) m cs) :: rest) F (w.freeze ⟨b, cs.toArray.size, none⟩ 1) := by
    refine Holds.freeze_fz (fun g hg => ⟨by simp [hm], _, c, rfl, .inr ⟨b, 0, rfl, ⟨_, _, _, hg, fun j v hj => ?_⟩, Nat.le_of_ble_eq_true hmc⟩⟩) (Holds.put (by unfold cel at h1; exact h1) hb2 (fun k hk _ => hold k hk))
    simpa using hj
  unfold OpW
  have : (execOp a.eval ⟨some d, .convert t t x, ty, pos, after, g⟩).run P w = .ok (.value (.slice (some ⟨b, 0, none⟩) m c)) (w.freeze ⟨b, cs.toArray.size, none⟩ 1) := by
    simp only [execOp, he.eval hx, Sem.run_bind, hr, Result.andThen_ok, Sem.run_pure]
  rw [this]
  exact hK _ _ _ _ (he.put _ hd) hh ⟨rfl, rfl, rfl, by simp [World.freeze]⟩ hk
/-- An empty slice that is written out. -/
theorem Stp.slice0 {P : Program} {n d t ty e' sz : Nat} {pos : String} {after : Array Edge} {g : Option (Nat × Bool)} {e : Env} {l : List HP} {Φ : Env → List HP → Prop} {zs : List Value} [ht : EL P t e'] [hz : SZ P e' sz] [hzv : ZV P e' zs]
    (hd : Nat.blt d n = true) (hk : ∀ b, Φ (eset e d (.slice (some ⟨b, 0, none⟩) 0 0)) (rowA e' sz (.slice (some ⟨b, 0, none⟩) 0 0) 0 [] :: l)) :
    Stp P n ⟨some d, .buildSlice t 0 (#[] : Array (Nat × Operand)), ty, pos, after, g⟩ e l Φ := by
  have h : Stp P n ⟨some d, .buildSlice t 0 (#[] : Array (Nat × Operand)), ty, pos, after, g⟩ e l (fun e1 l1 => ∃ b, e1 = eset e d (.slice (some ⟨b, 0, none⟩) 0 0) ∧ l1 = cel b e' [] :: l) :=
    Stp.slice (ps := []) (vs := []) (cs := []) (k := 0) rfl rfl (by simp) (by simp) (by omega) hd (fun b => ⟨b, rfl, rfl⟩)
  unfold Stp at h ⊢
  intro F w a ds hl he K Q0 hK
  refine h F w a ds hl he K Q0 ?_
  rintro _ _ _ _ h1 h2 h3 ⟨b, rfl, rfl⟩
  exact hK _ _ _ _ h1 ((Gh.row (n := 0) (sz := sz) Pk.here (by simp)).use h2) h3 (hk b)
theorem Rdo.indexSliceE {P : Program} {e : Env} {C : List HP} {x y : Operand} {b off len cap z : Nat} {i : Nat} {j : Int} {t e' ty : TypeId} {k : IntKind} [h : EL P t e'] [hz : SZ P e' z] (hx : evl e x = some (.slice (some ⟨b, off, none⟩) len cap)) (hy : evl e y = some (.int k j)) (hj : j = (i : Int)) (hi : i < len) :
    Rdo P e C (.indexAddr t x y) ty (.pointer (some ⟨b, off + i * z, none⟩)) := by
  subst hj
  exact Rdo.indexSlice hx hy hi
theorem Rdo.indexArrE {P : Program} {e : Env} {C : List HP} {x y : Operand} {b off len z : Nat} {i : Nat} {j : Int} {t e' ty : TypeId} {k : IntKind} [h : AR P t len e'] [hz : SZ P e' z] (hx : evl e x = some (.pointer (some ⟨b, off, none⟩))) (hy : evl e y = some (.int k j)) (hj : j = (i : Int)) (hi : i < len) :
    Rdo P e C (.indexAddr t x y) ty (.pointer (some ⟨b, off + i * z, none⟩)) := by
  subst hj
  exact Rdo.indexArr hx hy hi
/-- An array of nothing. -/
theorem Rdo.bldArr0 {P : Program} {e : Env} {C : List HP} {t ty n e' z : Nat} {zs : List Value} [hz : ZV P t zs] [ha : AR P t n e'] [hs : SZ P e' z] : Rdo P e C (.build t (#[] : Array (Nat × Operand))) ty (.agg zs.toArray) := by
  unfold Rdo
  intro G w a m dst pos after g hl he
  obtain ⟨x, hzr, hzc⟩ := hz.run (w := w)
  simp [execOp, Instr.build, hzr, run_underlying ha.pf, hs.run, hzc, Instr.fill]
/-- Cells out of the middle of a block, as a whole. -/
theorem Lds.cut {P : Program} {l : List HP} {b off n : Nat} {t' t : TypeId} {cs vs : List Value} [ha : AG P t true] [hz : SZ P t n] (hv : (cs.drop off).take n = vs) (hn : vs.length = n) : Lds P (cel b t' cs :: l) ⟨b, off, none⟩ t (.agg vs.toArray) := by
  by_cases ho : off ≤ cs.length
  · refine Lds.part (pre := cs.take off) (post := (cs.drop off).drop n) ?_ (by simp; omega) hn
    rw [← hv, List.take_append_drop, List.take_append_drop]
  · have h0 : vs = [] := by rw [← hv, List.drop_eq_nil_of_le (by omega)]; simp
    subst h0
    simp at hn
    subst hn
    unfold Lds
    intro F w hl
    have := run_loadCells_list (P := P) w ⟨b, off, none⟩ [] (fun j v hj => by simp at hj)
    simp only [List.length_nil] at this
    simp [Instr.loadAt, Instr.sureAddr, loadVar, ha.run, hz.run, this]
/-- append onto an empty row of one's own. -/
theorem Stp.append0P {P : Program} {n d : Nat} {x y : Operand} {t xt ty e' sz by_ : Nat} {zs : List Value} {pos : String} {after : Array Edge} {g : Option (Nat × Bool)} {e : Env} {l C : List HP} {Φ : Env → List HP → Prop}
    {v u : Value} {m : Nat} {news : List Value} [ht : EL P t e'] [hz : SZ P e' sz] [hby : BY P e' by_] [hzv : ZV P e' zs] [hni : NI P xt]
    (hx : evl e x = some v) (hy : evl e y = some u) (hp : Pk l (rowA e' sz v 0 []) C) (hs : Src P C sz u m news) (hnl : news.length = m * sz) (hone : oneCells news) (hbytes : m * by_ ≤ 140737488355328) (h63 : m ≤ 9223372036854775807) (hd : Nat.blt d n = true) (hzl : zs.length = sz)
    (hk : ∀ a' c', Φ (eset e d (.slice a' m c')) (rowA e' sz (.slice a' m c') m news :: C)) :
    Stp P n ⟨some d, .call { callee := .builtin .append, args := [x, y].toArray, argTypes := [t, xt].toArray }, ty, pos, after, g⟩ e l Φ :=
  Stp.gh (Gh.front hp) (Stp.append0 hx hy hs hnl hone hbytes h63 hd hzl hk)
/-- A triple out of another one; what the memory shows behind the call may be told as well. -/
theorem Trip.viaG {P : Program} {f : FuncId} {args : List Value} {l pre rest : List HP} {post post' : Value → List HP → Prop} (h : Trip P f args pre post) (hp : Tk l pre rest)
    (hk : ∀ v l', post v l' → ∀ F w, Holds (l' ++ rest) F w → ∃ l'', post' v l'' ∧ Holds l'' F w) : Trip P f args l post' := by
  unfold Trip
  intro F w hl
  obtain ⟨G, h1, h2⟩ := (hp.use hl).frame
  refine (h.use G w h1).mono ?_
  rintro e w' ⟨v, l', he, hpo, hl', hx⟩
  obtain ⟨l'', h3, h4⟩ := hk v l' hpo F w' (h2 l' w' hl')
  exact ⟨v, l'', he, h3, h4, hx⟩
end Go.Proofs.YtomijhgicennbaaGreat
namespace Go.Proofs.YtomijhgicennbaaGreat
open Go
set_option maxHeartbeats 4000000
set_option linter.unusedSimpArgs false
set_option linter.unusedVariables false
set_option maxRecDepth 20000
/-- A digest: 32 bytes. -/
structure Hash where
  l : List UInt8
  h : l.length = 32
  deriving DecidableEq
structure Vote where
  kind : Int
  slot : Int
  view : Int
  sum : Hash
  from_ : Int
  tag : Hash
  deriving DecidableEq
structure Msg where
  kind : Int
  from_ : Int
  to : Int
  slot : Int
  view : Int
  value : List UInt8
  votes : List Vote
  tag : Hash
  deriving DecidableEq
def hash0 : Hash := ⟨List.replicate 32 0, by simp⟩
def hc (h : Hash) : List Value := bytesC h.l
def voteC (v : Vote) : List Value := [vi v.kind, vi v.slot, vi v.view] ++ (hc v.sum ++ (vi v.from_ :: hc v.tag))
def msgC (k f t s v : Int) (sv vv : Value) (h : Hash) : List Value := [vi k, vi f, vi t, vi s, vi v, sv, vv] ++ hc h
theorem hc_length (h : Hash) : (hc h).length = 32 := by simp [hc, bytesC_length, h.h]
theorem voteC_length (v : Vote) : (voteC v).length = 68 := by simp [voteC, hc_length]
theorem msgC_length (k f t s v : Int) (sv vv : Value) (h : Hash) : (msgC k f t s v sv vv h).length = 39 := by simp [msgC, hc_length]
attribute [simp] hc_length voteC_length msgC_length bytesC_length
theorem u8c_inj {a b : UInt8} (h : u8c a = u8c b) : a = b := by
  simp only [u8c, Value.int.injEq, true_and] at h
  exact UInt8.toNat_inj.1 (by omega)
theorem bytesC_inj : ∀ {a b : List UInt8}, bytesC a = bytesC b → a = b
  | [], [], _ => rfl
  | [], _ :: _, h => by simp [bytesC] at h
  | _ :: _, [], h => by simp [bytesC] at h
  | x :: a, y :: b, h => by
    simp only [bytesC, List.map_cons, List.cons.injEq] at h
    obtain ⟨h1, h2⟩ := h
    have e1 := u8c_inj h1
    have e2 := bytesC_inj (a := a) (b := b) (by simpa [bytesC] using h2)
    rw [e1, e2]
theorem hc_inj {a b : Hash} (h : hc a = hc b) : a = b := by
  obtain ⟨a, ha⟩ := a
  obtain ⟨b, hb⟩ := b
  have := bytesC_inj h
  simp only at this
  subst this
  rfl
theorem oneCells_append {a b : List Value} (ha : oneCells a) (hb : oneCells b) : oneCells (a ++ b) := fun v hv => (List.mem_append.1 hv).elim (ha v) (hb v)
theorem oneCells_cons {a : Value} {b : List Value} (ha : a.oneCell' = true) (hb : oneCells b) : oneCells (a :: b) := fun v hv => by
  cases hv with
  | head => exact ha
  | tail _ h => exact hb v h
theorem oneCells_hc (h : Hash) : oneCells (hc h) := oneCells_bytesC _
theorem oneCells_voteC (v : Vote) : oneCells (voteC v) :=
  oneCells_append (oneCells_cons rfl (oneCells_cons rfl (oneCells_cons rfl oneCells_nil))) (oneCells_append (oneCells_bytesC _) (oneCells_cons rfl (oneCells_bytesC _)))
theorem oneCells_msgC {k f t s v : Int} {sv vv : Value} {h : Hash} (h1 : sv.oneCell' = true) (h2 : vv.oneCell' = true) : oneCells (msgC k f t s v sv vv h) :=
  oneCells_append (oneCells_cons rfl (oneCells_cons rfl (oneCells_cons rfl (oneCells_cons rfl (oneCells_cons rfl (oneCells_cons h1 (oneCells_cons h2 oneCells_nil))))))) (oneCells_bytesC _)
theorem oneCells_flatten {css : List (List Value)} (h : ∀ c ∈ css, oneCells c) : oneCells css.flatten := fun v hv => by
  obtain ⟨c, hc, hv⟩ := List.mem_flatten.1 hv
  exact h c hc v hv
theorem msgC_tag {k f t s v : Int} {sv vv : Value} {h : Hash} : msgC k f t s v sv vv h = [vi k, vi f, vi t, vi s, vi v, sv, vv] ++ (hc h ++ []) := by simp [msgC]
theorem voteC_sum {v : Vote} : voteC v = [vi v.kind, vi v.slot, vi v.view] ++ (hc v.sum ++ (vi v.from_ :: hc v.tag)) := rfl
theorem voteC_tag {v : Vote} : voteC v = ([vi v.kind, vi v.slot, vi v.view] ++ (hc v.sum ++ [vi v.from_])) ++ (hc v.tag ++ []) := by simp [voteC]
def votesC (vs : List Vote) : List Value := (vs.map voteC).flatten
theorem votesC_length (vs : List Vote) : (votesC vs).length = vs.length * 68 := by
  unfold votesC
  rw [flatten_length (sz := 68) (by intro c hc; obtain ⟨v, _, rfl⟩ := List.mem_map.1 hc; exact voteC_length v)]
  simp
theorem oneCells_votesC (vs : List Vote) : oneCells (votesC vs) := oneCells_flatten fun c hc => by obtain ⟨v, _, rfl⟩ := List.mem_map.1 hc; exact oneCells_voteC v
attribute [simp] votesC_length
abbrev RdVotes (g : FH) (v : Value) (vs : List Vote) : Prop := RdRow g 68 v vs.length (votesC vs)
def RdMsg (g : FH) (cs : List Value) (m : Msg) : Prop :=
  ∃ sv vv, cs = msgC m.kind m.from_ m.to m.slot m.view sv vv m.tag ∧ RdBytes g sv m.value ∧ RdVotes g vv m.votes
abbrev RdMsgs (g : FH) (v : Value) (ms : List Msg) : Prop := RdSl RdMsg 39 g v ms
theorem RdMsg.mono (c : List Value) (m : Msg) : Mono fun g => RdMsg g c m := fun g g' hle ⟨sv, vv, h, h1, h2⟩ => ⟨sv, vv, h, RdRow.mono _ _ _ _ g g' hle h1, RdRow.mono _ _ _ _ g g' hle h2⟩
theorem RdRow.shape {g : FH} {sz n : Nat} {v : Value} {xs : List Value} (h : RdRow g sz v n xs) : ∃ a c, v = .slice a n c := by
  obtain ⟨_, a, c, h, _⟩ := h
  exact ⟨a, c, h⟩
theorem shape_votes {v : Value} {vs : List Vote} (r : Res) (h : fz (fun g => RdVotes g v vs) r) : ∃ a c, v = .slice a vs.length c := by unfold fz at h; exact h.shape
theorem nil_votes {n c : Nat} {bs : List Vote} (r : Res) (h : fz (fun g => RdVotes g (.slice none n c) bs) r) : bs = [] := by
  unfold fz at h
  obtain ⟨_, a, c', h2, h3⟩ := h
  simp only [Value.slice.injEq] at h2
  obtain ⟨rfl, rfl, rfl⟩ := h2
  rcases h3 with h3 | ⟨b, o, h3, _⟩
  · exact List.eq_nil_of_length_eq_zero h3
  · cases h3
theorem Gh.noVotes {l : List HP} {a : Option Addr} {c : Nat} : Gh l (fz (fun g => RdVotes g (.slice a 0 c) []) :: l) := Gh.fzTrue fun g => RdRow.nil g 68 a c
/-- The cells of a message whose value and votes are slices. -/
abbrev msgCs (m : Msg) (x : (Option Addr × Nat) × (Option Addr × Nat)) : List Value := msgC m.kind m.from_ m.to m.slot m.view (.slice x.1.1 m.value.length x.1.2) (.slice x.2.1 m.votes.length x.2.2) m.tag
theorem Gh.mkMsg {l rest rest' : List HP} {m : Msg} {sv vv : Value} (h1 : Pk l (fz (fun g => RdBytes g sv m.value)) rest) (h2 : Pk rest (fz (fun g => RdVotes g vv m.votes)) rest') :
    Gh l (fz (fun g => RdMsg g (msgC m.kind m.from_ m.to m.slot m.view sv vv m.tag) m) :: rest') :=
  Gh.trans (Gh.fzAnd (RdRow.mono _ _ _ _) (RdRow.mono _ _ _ _) h1 h2) (Gh.fzImp Pk.here fun g h => ⟨sv, vv, rfl, h.1, h.2⟩)
theorem RdMsg.len {g : FH} {cs : List Value} {m : Msg} (h : RdMsg g cs m) : cs.length = 39 := by obtain ⟨sv, vv, rfl, _⟩ := h; simp
theorem RdMsg.one {g : FH} {cs : List Value} {m : Msg} (h : RdMsg g cs m) : oneCells cs := by
  obtain ⟨sv, vv, rfl, h1, h2⟩ := h
  obtain ⟨a, c, rfl⟩ := h1.shape
  obtain ⟨a', c', rfl⟩ := h2.shape
  exact oneCells_msgC rfl rfl
theorem len_msg {cs : List Value} {m : Msg} (r : Res) (h : fz (fun g => RdMsg g cs m) r) : cs.length = 39 ∧ oneCells cs := by
  unfold fz at h
  exact ⟨h.len, h.one⟩
end Go.Proofs.YtomijhgicennbaaGreat
namespace Go.Proofs.YtomijhgicennbaaGreat
open Go
set_option maxHeartbeats 4000000
set_option linter.unusedSimpArgs false
set_option linter.unusedVariables false
section
variable {P : Program} {t e : TypeId}
end
end Go.Proofs.YtomijhgicennbaaGreat
namespace Go.Proofs.YtomijhgicennbaaGreat
open Go
set_option maxHeartbeats 4000000
set_option linter.unusedSimpArgs false
set_option linter.unusedVariables false
section
variable {P : Program} {t e : TypeId}
theorem RdRow.cap_le {g : FH} {sz n m c : Nat} {a : Option Addr} {xs : List Value} (h : RdRow g sz (.slice a m c) n xs) : n ≤ c := by
  obtain ⟨_, a', c', h2, h3⟩ := h
  simp only [Value.slice.injEq] at h2
  obtain ⟨rfl, rfl, rfl⟩ := h2
  rcases h3 with h3 | ⟨_, _, _, _, h3⟩
  · omega
  · exact h3
theorem row_cap {sz n c : Nat} {a : Option Addr} {xs : List Value} (r : Res) (h : fz (fun g => RdRow g sz (.slice a n c) n xs) r) : n ≤ c := by
  unfold fz at h
  exact h.cap_le
/-- Where a row stands that has a cell. -/
theorem row_some {sz n c : Nat} {a : Option Addr} {xs : List Value} (h0 : 0 < n) (r : Res) (h : fz (fun g => RdRow g sz (.slice a n c) n xs) r) : ∃ b o, a = some ⟨b, o, none⟩ := by
  unfold fz at h
  obtain ⟨_, a', c', h2, h3⟩ := h
  simp only [Value.slice.injEq, true_and] at h2
  obtain ⟨rfl, rfl⟩ := h2
  rcases h3 with h3 | ⟨b, o, h3, _⟩
  · omega
  · exact ⟨b, o, h3⟩
theorem fzrow_sees {l : List HP} {F : Res} {w : World} {sz n b o c : Nat} {xs : List Value} (h : Holds (fz (fun g => RdRow g sz (.slice (some ⟨b, o, none⟩) n c) n xs) :: l) F w) (j : Nat) (v : Value) (hj : xs[j]? = some v) : w.cell? ⟨b, o + j, none⟩ = some v := by
  obtain ⟨g, ⟨hl, a', c', h2, h3⟩, hw⟩ := h.fz_sees
  simp only [Value.slice.injEq, true_and] at h2
  obtain ⟨rfl, rfl⟩ := h2
  rcases h3 with h3 | ⟨b', o', h3, ⟨arr, t, fr, hb, hc⟩, -⟩
  · have := (List.getElem?_eq_some_iff.1 hj).1
    rw [hl, h3] at this
    simp at this
  · simp only [Option.some.injEq, Addr.mk.injEq, and_true] at h3
    obtain ⟨rfl, rfl⟩ := h3
    unfold World.cell?
    simp [hw _ _ hb, hc j v hj]
theorem Lds.fz1 {l : List HP} {ty : TypeId} {n b o c i : Nat} {xs : List Value} {v : Value} [ha : AG P ty false] (hx : xs[i]? = some v) :
    Lds P (fz (fun g => RdRow g 1 (.slice (some ⟨b, o, none⟩) n c) n xs) :: l) ⟨b, o + i * 1, none⟩ ty v := by
  unfold Lds
  intro F w hl
  have := fzrow_sees hl i v hx
  simp [Instr.loadAt, Instr.sureAddr, loadVar, ha.run, this]
theorem Lds.fzN {l : List HP} {ty : TypeId} {sz n b o c i : Nat} {xs pre cs post : List Value} [ha : AG P ty true] [hz : SZ P ty sz] (hx : xs = pre ++ (cs ++ post)) (hp : pre.length = i * sz) (hc : cs.length = sz) :
    Lds P (fz (fun g => RdRow g sz (.slice (some ⟨b, o, none⟩) n c) n xs) :: l) ⟨b, o + i * sz, none⟩ ty (.agg cs.toArray) := by
  unfold Lds
  intro F w hl
  subst hx
  have := run_loadCells_list (P := P) w ⟨b, o + i * sz, none⟩ cs (fun j v hj => by
    rw [addr_add, Nat.add_assoc]
    refine fzrow_sees hl _ v ?_
    rw [List.getElem?_append_right (by omega), hp, Nat.add_sub_cancel_left, List.getElem?_append_left (List.getElem?_eq_some_iff.1 hj).1]
    exact hj)
  rw [hc] at this
  simp [Instr.loadAt, Instr.sureAddr, loadVar, ha.run, hz.run, this]
theorem bytesC_at {bs : List UInt8} {i : Nat} {b : UInt8} (h : bs[i]? = some b) : (bytesC bs)[i]? = some (.int .u8 b.toNat) := by simp [bytesC, u8c, h]
theorem intsC_at {ps : List Int} {i : Nat} {n : Int} (h : ps[i]? = some n) : (ps.map vi)[i]? = some (vi n) := by simp [h]
theorem boolsC_at {ps : List Bool} {i : Nat} {n : Bool} (h : ps[i]? = some n) : (ps.map vb)[i]? = some (vb n) := by simp [h]
end
end Go.Proofs.YtomijhgicennbaaGreat
namespace Go.Proofs.YtomijhgicennbaaGreat
open Go
set_option maxHeartbeats 4000000
set_option linter.unusedSimpArgs false
set_option linter.unusedVariables false
/-- Kinds of cells that can be compared. -/
inductive CK where
  | i (k : IntKind)
  | b
  | s
  deriving DecidableEq
def okc : CK → Value → Bool
  | .i k, .int k' _ => decide (k' = k)
  | .b, .bool _ => true
  | .s, .string _ => true
  | _, _ => false
def oks : List CK → List Value → Bool
  | [], [] => true
  | c :: cs, v :: vs => okc c v && oks cs vs
  | _, _ => false
theorem oks_len : ∀ {ks : List CK} {xs : List Value}, oks ks xs = true → xs.length = ks.length
  | [], [], _ => rfl
  | [], _ :: _, h => by simp [oks] at h
  | _ :: _, [], h => by simp [oks] at h
  | c :: cs, v :: vs, h => by
    simp only [oks, Bool.and_eq_true] at h
    simp [oks_len h.2]
theorem oks_append : ∀ {k1 k2 : List CK} {xs ys : List Value}, oks k1 xs = true → oks k2 ys = true → oks (k1 ++ k2) (xs ++ ys) = true
  | [], _, [], _, _, h => h
  | [], _, _ :: _, _, h, _ => by simp [oks] at h
  | _ :: _, _, [], _, h, _ => by simp [oks] at h
  | c :: cs, k2, v :: vs, ys, h, h2 => by
    simp only [oks, Bool.and_eq_true] at h
    simp only [List.cons_append, oks, Bool.and_eq_true]
    exact ⟨h.1, oks_append h.2 h2⟩
theorem oks_split : ∀ {k1 k2 : List CK} {xs : List Value}, oks (k1 ++ k2) xs = true → oks k1 (xs.take k1.length) = true ∧ oks k2 (xs.drop k1.length) = true
  | [], _, _, h => ⟨by simp [oks], by simpa using h⟩
  | _ :: _, _, [], h => by simp [oks] at h
  | c :: cs, k2, v :: vs, h => by
    simp only [List.cons_append, oks, Bool.and_eq_true] at h
    obtain ⟨h1, h2⟩ := oks_split h.2
    simp only [List.length_cons, List.take_succ_cons, oks, Bool.and_eq_true, List.drop_succ_cons]
    exact ⟨⟨h.1, h1⟩, h2⟩
def cksF (f : TypeId → Option (List CK)) : List Field → Nat → Option (List CK)
  | [], _ => some []
  | g :: fs, o => if g.name != "_" && g.offset == o then (f g.type).bind fun k => (cksF f fs (o + k.length)).map (k ++ ·) else none
/-- The cells' kinds of a type that can be compared. -/
def cks (P : Program) : Nat → TypeId → Option (List CK)
  | 0, _ => none
  | d + 1, t => match P.underlying t with
    | some .bool => if aggOf P t = some false then some [.b] else none
    | some (.int k) => if aggOf P t = some false then some [.i k] else none
    | some .string => if aggOf P t = some false then some [.s] else none
    | some (.struct fs) => if aggOf P t = some true && !P.stoodInHeld t then (cksF (cks P d) fs.toList 0).bind fun ks => if (P.info? t).map (·.size) = some ks.length then some ks else none else none
    | some (.array n e) => if aggOf P t = some true then (cks P d e).bind fun k => if (P.info? e).map (·.size) = some k.length && P.cellsOf e == k.length && (P.info? t).map (·.size) = some (n * k.length) then some (List.replicate n k).flatten else none else none
    | _ => none
def valOf (ag : Bool) (xs : List Value) : Value := if ag then .agg xs.toArray else xs.headD (.bool false)
def EqvAt (P : Program) (d : Nat) (t : TypeId) (ks : List CK) : Prop :=
  ∃ ag, aggOf P t = some ag ∧ (ag = true → (P.info? t).map (·.size) = some ks.length) ∧ (ag = false → ks.length = 1) ∧
    ∀ w xs ys, oks ks xs = true → oks ks ys = true → ∃ r : Bool, (Op.equalIn d t (valOf ag xs) (valOf ag ys)).run P w = .ok r w ∧ (r = true ↔ xs = ys)
section
variable {P : Program}
theorem part_eqv {d : Nat} {t : TypeId} {ks : List CK} (h : EqvAt P d t ks) {w : World} {xs : List Value} {off : Nat} (hx : oks ks ((xs.drop off).take ks.length) = true) :
    ∃ ag, aggOf P t = some ag ∧ (part t xs.toArray off).run P w = .ok (valOf ag ((xs.drop off).take ks.length)) w := by
  obtain ⟨ag, h1, h2, h3, _⟩ := h
  refine ⟨ag, h1, ?_⟩
  have hl := oks_len hx
  cases ag with
  | true =>
    have hz := h2 rfl
    have ha : AG P t true := ⟨h1⟩
    have hs : SZ P t ks.length := ⟨hz⟩
    simp [part, ha.run, hs.run, valOf, List.extract_eq_take_drop]
  | false =>
    have hk := h3 rfl
    have ha : AG P t false := ⟨h1⟩
    rw [hk] at hl ⊢
    obtain ⟨v, hv⟩ : ∃ v, xs[off]? = some v := by
      have : off < xs.length := by simp at hl; omega
      exact ⟨_, List.getElem?_eq_getElem this⟩
    have hd : (xs.drop off).take 1 = [v] := by
      rw [List.take_one, List.head?_drop, hv]
      rfl
    rw [hd]
    simp [part, ha.run, valOf, hv]
theorem eqStep {d : Nat} {t : TypeId} {ks : List CK} (h : EqvAt P d t ks) {w : World} {xs ys : List Value} {off : Nat} (hx : oks ks ((xs.drop off).take ks.length) = true) (hy : oks ks ((ys.drop off).take ks.length) = true) :
    ∃ a b r, (part t xs.toArray off).run P w = .ok a w ∧ (part t ys.toArray off).run P w = .ok b w ∧ (Op.equalIn d t a b).run P w = .ok r w ∧ (r = true ↔ (xs.drop off).take ks.length = (ys.drop off).take ks.length) := by
  obtain ⟨ag, h1, h2⟩ := part_eqv h (w := w) hx
  obtain ⟨ag', h1', h2'⟩ := part_eqv h (w := w) hy
  obtain ⟨ag2, g1, _, _, g2⟩ := h
  obtain rfl : ag2 = ag := Option.some.inj (g1.symm.trans h1)
  obtain rfl : ag2 = ag' := Option.some.inj (g1.symm.trans h1')
  obtain ⟨r, hr, hiff⟩ := g2 w _ _ hx hy
  exact ⟨_, _, r, h2, h2', hr, hiff⟩
theorem eqFields_ok {d : Nat} (hall : ∀ t ks, cks P d t = some ks → EqvAt P (10000 - 12 + d) t ks) (w : World) : ∀ (fs : List Field) (o : Nat) (ks : List CK), cksF (cks P d) fs o = some ks → ∀ xs ys : List Value, oks ks (xs.drop o) = true → oks ks (ys.drop o) = true →
    ∃ r : Bool, (Op.eqFields (10000 - 12 + d) xs.toArray ys.toArray fs).run P w = .ok r w ∧ (r = true ↔ xs.drop o = ys.drop o)
  | [], o, ks, h, xs, ys, hx, hy => by
    simp only [cksF, Option.some.injEq] at h
    subst h
    have h1 := oks_len hx
    have h2 := oks_len hy
    have e1 : xs.drop o = [] := List.eq_nil_of_length_eq_zero h1
    have e2 : ys.drop o = [] := List.eq_nil_of_length_eq_zero h2
    exact ⟨true, by simp [Op.eqFields], by simp [e1, e2]⟩
  | g :: fs, o, ks, h, xs, ys, hx, hy => by
    simp only [cksF] at h
    split at h
    · rename_i hg
      simp only [Bool.and_eq_true, bne_iff_ne, ne_eq, beq_iff_eq] at hg
      obtain ⟨hn, ho⟩ := hg
      simp only [Option.bind_eq_some_iff, Option.map_eq_some_iff] at h
      obtain ⟨k, hk, k2, hk2, rfl⟩ := h
      obtain ⟨x1, x2⟩ := oks_split hx
      obtain ⟨y1, y2⟩ := oks_split hy
      obtain ⟨a, b, r, p1, p2, p3, hiff⟩ := eqStep (hall _ _ hk) (w := w) x1 y1
      obtain ⟨r', hr', hiff'⟩ := eqFields_ok hall w fs (o + k.length) k2 hk2 xs ys (by rw [← List.drop_drop]; exact x2) (by rw [← List.drop_drop]; exact y2)
      rw [← ho] at p1 p2
      have hsplit : (xs.drop o = ys.drop o) ↔ ((xs.drop o).take k.length = (ys.drop o).take k.length ∧ xs.drop (o + k.length) = ys.drop (o + k.length)) := by
        constructor
        · intro e
          rw [e, ← List.drop_drop, e, List.drop_drop]
          exact ⟨rfl, rfl⟩
        · rintro ⟨e1, e2⟩
          rw [← List.take_append_drop k.length (xs.drop o), ← List.take_append_drop k.length (ys.drop o), e1, List.drop_drop, List.drop_drop, e2]
      simp only [Op.eqFields, hn, ne_eq, not_false_eq_true, if_true, Sem.run_bind, p1, p2, p3, Result.andThen_ok]
      rw [hsplit]
      cases r
      · exact ⟨false, by simp, by simp; intro e; exact absurd (hiff.2 e) (by simp)⟩
      · refine ⟨r', by simpa using hr', ?_⟩
        rw [hiff']
        simp [hiff.1 rfl]
    · cases h
theorem eqItems_ok {dd : Nat} {e : TypeId} {k : List CK} (IH : EqvAt P dd e k) (w : World) (xs ys : List Value) : ∀ (is : List Nat), (∀ i ∈ is, oks k ((xs.drop (i * k.length)).take k.length) = true ∧ oks k ((ys.drop (i * k.length)).take k.length) = true) →
    ∃ r : Bool, (Op.eqItems dd e k.length xs.toArray ys.toArray is).run P w = .ok r w ∧ (r = true ↔ ∀ i ∈ is, (xs.drop (i * k.length)).take k.length = (ys.drop (i * k.length)).take k.length)
  | [], _ => ⟨true, by simp [Op.eqItems], by simp⟩
  | i :: is, h => by
    obtain ⟨x1, y1⟩ := h i (by simp)
    obtain ⟨a, b, r, p1, p2, p3, hiff⟩ := eqStep IH (w := w) x1 y1
    obtain ⟨r', hr', hiff'⟩ := eqItems_ok IH w xs ys is fun j hj => h j (by simp [hj])
    simp only [Op.eqItems, Sem.run_bind, p1, p2, p3, Result.andThen_ok, List.forall_mem_cons]
    cases r
    · exact ⟨false, by simp, by simp; intro e; exact absurd (hiff.2 e) (by simp)⟩
    · refine ⟨r', by simpa using hr', ?_⟩
      rw [hiff']
      simp [hiff.1 rfl]
theorem oks_rep {k : List CK} : ∀ {n : Nat} {xs : List Value}, oks (List.replicate n k).flatten xs = true → ∀ i < n, oks k ((xs.drop (i * k.length)).take k.length) = true
  | 0, _, _, i, hi => by omega
  | n + 1, xs, h, i, hi => by
    rw [List.replicate_succ, List.flatten_cons] at h
    obtain ⟨h1, h2⟩ := oks_split h
    cases i with
    | zero => simpa using h1
    | succ i =>
      have := oks_rep h2 i (by omega)
      rw [List.drop_drop] at this
      rwa [show k.length + i * k.length = (i + 1) * k.length by rw [Nat.add_mul]; omega] at this
theorem ext_rep {m : Nat} : ∀ {n : Nat} {xs ys : List Value}, xs.length = n * m → ys.length = n * m → ((∀ i ∈ List.range n, (xs.drop (i * m)).take m = (ys.drop (i * m)).take m) ↔ xs = ys)
  | n, xs, ys, hx, hy => by
    constructor
    · intro h
      have key : ∀ j, j ≤ n → xs.take (j * m) = ys.take (j * m) := by
        intro j
        induction j with
        | zero => simp
        | succ j ih =>
          intro hj
          rw [Nat.add_mul, Nat.one_mul, List.take_add, List.take_add, ih (by omega), h j (by simp; omega)]
      have := key n (Nat.le_refl _)
      rwa [List.take_of_length_le (by omega), List.take_of_length_le (by omega)] at this
    · rintro rfl _ _
      rfl
theorem cks_ok : ∀ (d : Nat) (t : TypeId) (ks : List CK), cks P d t = some ks → EqvAt P (10000 - 12 + d) t ks
  | 0, _, _, h => by simp [cks] at h
  | d + 1, t, ks, h => by
    unfold cks at h
    split at h
    · rename_i hu
      split at h
      · rename_i ha
        cases h
        refine ⟨false, ha, by simp, by simp, fun w xs ys hx hy => ?_⟩
        obtain ⟨v, rfl⟩ := List.length_eq_one_iff.1 (oks_len hx)
        obtain ⟨u, rfl⟩ := List.length_eq_one_iff.1 (oks_len hy)
        simp only [oks, Bool.and_true] at hx hy
        cases v <;> simp [okc] at hx
        cases u <;> simp [okc] at hy
        exact ⟨_, run_equalIn_bool' w _ t _ _ hu, by simp⟩
      · cases h
    · rename_i k hu
      split at h
      · rename_i ha
        cases h
        refine ⟨false, ha, by simp, by simp, fun w xs ys hx hy => ?_⟩
        obtain ⟨v, rfl⟩ := List.length_eq_one_iff.1 (oks_len hx)
        obtain ⟨u, rfl⟩ := List.length_eq_one_iff.1 (oks_len hy)
        simp only [oks, Bool.and_true] at hx hy
        cases v <;> simp [okc] at hx
        cases u <;> simp [okc] at hy
        subst hx
        subst hy
        exact ⟨_, run_equalIn_int w _ t _ _ _ _ hu, by simp⟩
      · cases h
    · rename_i hu
      split at h
      · rename_i ha
        cases h
        refine ⟨false, ha, by simp, by simp, fun w xs ys hx hy => ?_⟩
        obtain ⟨v, rfl⟩ := List.length_eq_one_iff.1 (oks_len hx)
        obtain ⟨u, rfl⟩ := List.length_eq_one_iff.1 (oks_len hy)
        simp only [oks, Bool.and_true] at hx hy
        cases v <;> simp [okc] at hx
        cases u <;> simp [okc] at hy
        refine ⟨_, run_equalIn_string w _ t _ _ hu, ?_⟩
        rename_i s1 s2
        simp only [beq_iff_eq, List.cons.injEq, Value.string.injEq, and_true]
        constructor
        · intro h
          rw [ByteArray.toList_eq, ByteArray.toList_eq] at h
          exact ByteArray.ext (Array.toList_inj.1 h)
        · rintro rfl
          rfl
      · cases h
    · rename_i fs hu
      split at h
      · rename_i ha
        simp only [Bool.and_eq_true, decide_eq_true_eq, Bool.not_eq_true'] at ha
        obtain ⟨ha, hst⟩ := ha
        simp only [Option.bind_eq_some_iff] at h
        obtain ⟨ks', hks, h⟩ := h
        split at h
        · rename_i hsz
          cases h
          refine ⟨true, ha, fun _ => hsz, by simp, fun w xs ys hx hy => ?_⟩
          have hfs : P.fieldsOf t = fs := by simp [Program.fieldsOf, hu]
          obtain ⟨r, hr, hiff⟩ := eqFields_ok (fun t ks h => cks_ok d t ks h) w fs.toList 0 ks hks xs ys (by simpa using hx) (by simpa using hy)
          refine ⟨r, ?_, by simpa using hiff⟩
          simp only [valOf, if_true]
          rw [show 10000 - 12 + (d + 1) = (10000 - 12 + d) + 1 from rfl, run_equalIn_struct w _ t _ _ (by rw [hfs]; exact hu) hst, hfs]
          exact hr
        · cases h
      · cases h
    · rename_i n e hu
      split at h
      · rename_i ha
        simp only [Option.bind_eq_some_iff] at h
        obtain ⟨k, hk, h⟩ := h
        split at h
        · rename_i hc
          simp only [Bool.and_eq_true, decide_eq_true_eq, beq_iff_eq] at hc
          obtain ⟨⟨hse, hce⟩, hst⟩ := hc
          cases h
          have hlen : (List.replicate n k).flatten.length = n * k.length := by simp
          refine ⟨true, ha, fun _ => by rw [hlen]; exact hst, by simp, fun w xs ys hx hy => ?_⟩
          obtain ⟨r, hr, hiff⟩ := eqItems_ok (cks_ok d e k hk) w xs ys (List.range n) (fun i hi => ⟨oks_rep hx i (by simpa using hi), oks_rep hy i (by simpa using hi)⟩)
          obtain ⟨inf, hinf, _⟩ := Option.map_eq_some_iff.1 hse
          refine ⟨r, ?_, by rw [hiff]; exact ext_rep (by rw [oks_len hx, hlen]) (by rw [oks_len hy, hlen])⟩
          simp only [valOf, if_true]
          rw [show 10000 - 12 + (d + 1) = (10000 - 12 + d) + 1 from rfl, run_equalIn_array w _ _ _ hu hinf, hce]
          exact hr
        · cases h
      · cases h
    · cases h
/-- A type whose values can be compared, by the kinds of their cells. -/
class CKS (P : Program) (t : TypeId) (ks : outParam (List CK)) : Prop where
  pf : cks P 12 t = some ks
  gd : P.eqGuardType P.depth t = false
  ag : aggOf P t = some true
theorem CKS.run {t : TypeId} {ks : List CK} (h : CKS P t ks) {xs ys : List Value} (hx : oks ks xs = true) (hy : oks ks ys = true) (w : World) : ∃ r : Bool, (Op.equalIn 10000 t (.agg xs.toArray) (.agg ys.toArray)).run P w = .ok r w ∧ (r = true ↔ xs = ys) := by
  obtain ⟨ag, h1, _, _, h2⟩ := cks_ok 12 t ks h.pf
  obtain rfl : ag = true := Option.some.inj (h1.symm.trans h.ag)
  exact h2 w xs ys hx hy
open Classical in
theorem CKS.dec {t : TypeId} {ks : List CK} (h : CKS P t ks) {xs ys : List Value} (hx : oks ks xs = true) (hy : oks ks ys = true) (w : World) : (Op.equalIn 10000 t (.agg xs.toArray) (.agg ys.toArray)).run P w = .ok (decide (xs = ys)) w := by
  obtain ⟨r, hr, hiff⟩ := h.run hx hy w
  rw [hr]
  congr 1
  rw [Bool.eq_iff_iff, hiff]
  simp
open Classical in
theorem Rdo.eqagg {e : Env} {C : List HP} {x y : Operand} {t u ty : TypeId} {ks : List CK} {xs ys : List Value} [h : CKS P t ks] (hx : evl e x = some (.agg xs.toArray)) (hy : evl e y = some (.agg ys.toArray)) (h1 : oks ks xs = true) (h2 : oks ks ys = true) :
    Rdo P e C (.binOp .eql t x y u) ty (.bool (decide (xs = ys))) := by
  unfold Rdo
  intro G w a n dst pos after g hG he
  simp [execOp, he.eval hx, he.eval hy, run_eqGuard_agg w _ _ _ _ _ _ h.gd, run_eql_struct, h.dec h1 h2 w]
open Classical in
theorem Rdo.neagg {e : Env} {C : List HP} {x y : Operand} {t u ty : TypeId} {ks : List CK} {xs ys : List Value} [h : CKS P t ks] (hx : evl e x = some (.agg xs.toArray)) (hy : evl e y = some (.agg ys.toArray)) (h1 : oks ks xs = true) (h2 : oks ks ys = true) :
    Rdo P e C (.binOp .neq t x y u) ty (.bool (!decide (xs = ys))) := by
  unfold Rdo
  intro G w a n dst pos after g hG he
  have hb : (binOp .neq t (.agg xs.toArray) (.agg ys.toArray)).run P w = .ok (.bool (!decide (xs = ys))) w := by
    simp [binOp, Op.equal, Op.maxDepth, h.dec h1 h2 w]
  simp [execOp, he.eval hx, he.eval hy, run_eqGuard_agg w _ _ _ _ _ _ h.gd, hb]
end
end Go.Proofs.YtomijhgicennbaaGreat
namespace Go.Proofs.YtomijhgicennbaaGreat
open Go
-- 27: [32]uint8
-- 28: api.Hash
instance : CKS Tryz.prog 28 (List.replicate 32 (.i .u8)) := ⟨by kernel_rfl, by kernel_rfl, by kernel_rfl⟩
-- 44: api.Vote
instance : CKS Tryz.prog 44 ([.i .i64, .i .i64, .i .i64] ++ (List.replicate 32 (.i .u8) ++ ([.i .i64] ++ (List.replicate 32 (.i .u8))))) := ⟨by kernel_rfl, by kernel_rfl, by kernel_rfl⟩
-- 134: [8]uint32
-- 135: digest.state
-- 136: [64]uint32
-- 140: [128]uint8
-- 209: [64]uint8
end Go.Proofs.YtomijhgicennbaaGreat
namespace Go.Proofs.YtomijhgicennbaaGreat
open Go
set_option maxHeartbeats 4000000
set_option linter.unusedSimpArgs false
set_option linter.unusedVariables false
theorem J1.cases' {x y z : Option (Bool × Obj)} (h : J1 x y z) : (y = none ∧ z = x) ∨ (x = none ∧ z = y) ∨ (∃ o, x = some (false, o) ∧ y = some (false, o) ∧ z = some (false, o)) := by
  cases h
  · exact .inl ⟨rfl, rfl⟩
  · exact .inr (.inl ⟨rfl, rfl⟩)
  · exact .inr (.inr ⟨_, rfl, rfl, rfl⟩)
/-- All as if frozen. -/
def iced (r : Res) : Res := fun b => (r b).map fun x => (false, x.2)
/-- What is owned alone. -/
def mine (r : Res) : Res := fun b => match r b with | some (true, o) => some (true, o) | _ => none
/-- Resources that need no frozen memory. -/
def Own1 (p : HP) : Prop := ∀ r, p r → p (mine r)
def OwnL (l : List HP) : Prop := ∀ r, stars l r → stars l (mine r)
theorem mine_join {a c r : Res} (h : Join a c r) : Join (mine a) (mine c) (mine r) := fun b => by
  unfold mine
  rcases (h b).cases' with ⟨h1, h2⟩ | ⟨h1, h2⟩ | ⟨o, h1, h2, h3⟩
  · rw [h1, h2]; exact .l _
  · rw [h1, h2]; exact .r _
  · rw [h1, h2, h3]; exact .l _
theorem OwnL.nil : OwnL [] := fun _ _ => trivial
theorem OwnL.cons {p : HP} {l : List HP} (hp : Own1 p) (hl : OwnL l) : OwnL (p :: l) := fun r ⟨a, c, hj, ha, hc⟩ => ⟨mine a, mine c, mine_join hj, hp a ha, hl c hc⟩
theorem Own1.row {t : TypeId} {sz n : Nat} {v : Value} {xs : List Value} : Own1 (rowA t sz v n xs) := fun r hr => by
  unfold rowA at hr ⊢
  obtain ⟨hl, h⟩ := hr
  refine ⟨hl, ?_⟩
  rcases h with h | ⟨b, o, cap, cur, h1, h2, h3⟩
  · exact .inl h
  · exact .inr ⟨b, o, cap, cur, h1, by unfold mine; rw [h2], h3⟩
theorem Own1.blk {b : Nat} {o : Obj} : Own1 (blk b o) := fun r hr => by
  unfold Go.Proofs.YtomijhgicennbaaGreat.blk at hr ⊢
  unfold mine
  rw [hr]
theorem Own1.cel {b : Nat} {t : TypeId} {cs : List Value} : Own1 (Go.Proofs.YtomijhgicennbaaGreat.cel b t cs) := fun r hr => by
  unfold Go.Proofs.YtomijhgicennbaaGreat.cel at hr ⊢
  exact Own1.blk r hr
/-- Owned memory is lent. -/
theorem Trip.lend {P : Program} {f : FuncId} {args : List Value} {own pre : List HP} {Φ : FH → Prop} {post : Value → List HP → Prop} (h : Trip P f args (fz Φ :: pre) post)
    (hΦ : ∀ r, stars own r → Φ (fun b => (r b).map (·.2))) (hown : ∀ v l, post v l → OwnL l) : Trip P f args (own ++ pre) (fun v l => ∃ l', post v l' ∧ l = own ++ l') := by
  unfold Trip
  intro F w hl
  unfold Holds at hl
  obtain ⟨r, t, hst, hj, hs⟩ := hl
  obtain ⟨ro, rp, hj2, ho, hp⟩ := stars_append.1 hst
  have mk : ∀ g : Res, ∃ F' : Res, (∀ b x, ro b = some x → F' b = some (false, x.2)) ∧ (∀ b, ro b = none → F' b = g b) := fun g =>
    ⟨fun b => match ro b with | some x => some (false, x.2) | none => g b, fun b x h => by simp only [h], fun b h => by simp only [h]⟩
  obtain ⟨F', hF1, hF0⟩ := mk F
  obtain ⟨r', hr1, hr0⟩ := mk rp
  obtain ⟨t', ht1, ht0⟩ := mk t
  have key : ∀ b x, ro b = some x → (rp b = none ∨ rp b = some (false, x.2)) ∧ (F b = none ∨ (x.1 = false ∧ F b = some (false, x.2))) ∧ t b = some x := by
    intro b x hx
    have h1 := hj2 b
    have h2 := hj b
    rw [hx] at h1
    rcases h1.cases' with ⟨g1, g2⟩ | ⟨g1, g2⟩ | ⟨o, g1, g2, g3⟩
    · refine ⟨.inl g1, ?_⟩
      rw [g2] at h2
      rcases h2.cases' with ⟨k1, k2⟩ | ⟨k1, k2⟩ | ⟨o, k1, k2, k3⟩
      · exact ⟨.inl k1, k2⟩
      · cases k1
      · cases k1; exact ⟨.inr ⟨rfl, k2⟩, k3⟩
    · cases g1
    · cases g1
      refine ⟨.inr g2, ?_⟩
      rw [g3] at h2
      rcases h2.cases' with ⟨k1, k2⟩ | ⟨k1, k2⟩ | ⟨o', k1, k2, k3⟩
      · exact ⟨.inl k1, k2⟩
      · cases k1
      · cases k1; exact ⟨.inr ⟨rfl, k2⟩, k3⟩
  have key0 : ∀ b, ro b = none → J1 (rp b) (F b) (t b) := by
    intro b hx
    have h1 := hj2 b
    have h2 := hj b
    rw [hx] at h1
    rcases h1.cases' with ⟨g1, g2⟩ | ⟨g1, g2⟩ | ⟨o, g1, g2, g3⟩
    · rw [g1]; rw [g2] at h2; exact h2
    · rw [g2] at h2; exact h2
    · cases g1
  have hsF : Sat w t' := by
    intro b x hx
    cases hb : ro b with
    | none =>
      rw [ht0 b hb] at hx
      exact hs b x hx
    | some y =>
      rw [ht1 b y hb] at hx
      have := hs b y (key b y hb).2.2
      cases hx
      exact this
  have hpre : Holds (fz Φ :: pre) F' w := by
    unfold Holds
    refine ⟨r', t', ⟨iced ro, rp, fun b => ?_, ?_, hp⟩, fun b => ?_, hsF⟩
    · cases hb : ro b with
      | none => rw [hr0 b hb, show iced ro b = none by unfold iced; rw [hb]; rfl]; exact .r _
      | some x =>
        rw [hr1 b x hb, show iced ro b = some (false, x.2) by unfold iced; rw [hb]; rfl]
        rcases (key b x hb).1 with h1 | h1
        · rw [h1]; exact .l _
        · rw [h1]; exact .f _
    · unfold fz
      have : frz (iced ro) = fun b => (ro b).map (·.2) := by
        funext b
        unfold frz iced
        cases ro b <;> rfl
      rw [this]
      exact hΦ ro ho
    · cases hb : ro b with
      | none => rw [hr0 b hb, hF0 b hb, ht0 b hb]; exact key0 b hb
      | some x => rw [hr1 b x hb, hF1 b x hb, ht1 b x hb]; exact .f _
  refine (h.use F' w hpre).mono ?_
  rintro e w' ⟨v, l', he, hpo, hl', hx⟩
  refine ⟨v, own ++ l', he, ⟨l', hpo, rfl⟩, ?_, hx⟩
  have hsat' := hl'.satF
  unfold Holds at hl' ⊢
  obtain ⟨r2, t2, hst2, hj2', hs2⟩ := hl'
  have hm : ∀ b x, ro b = some x → mine r2 b = none := by
    intro b x hb
    have h1 := hj2' b
    rw [hF1 b x hb] at h1
    unfold mine
    rcases h1.cases' with ⟨g1, g2⟩ | ⟨g1, g2⟩ | ⟨o, g1, g2, g3⟩
    · cases g1
    · rw [g1]
    · rw [g1]
  have hm2 : ∀ b y, mine r2 b = some y → r2 b = some y ∧ y.1 = true := by
    intro b y hb2
    unfold mine at hb2
    split at hb2
    · rename_i o ho2; cases hb2; exact ⟨ho2, rfl⟩
    · cases hb2
  have mk2 : ∀ g : Res, ∃ F' : Res, (∀ b x, ro b = some x → F' b = some x) ∧ (∀ b, ro b = none → F' b = g b) := fun g =>
    ⟨fun b => match ro b with | some x => some x | none => g b, fun b x h => by simp only [h], fun b h => by simp only [h]⟩
  have mk3 : ∃ g : Res, (∀ b y, mine r2 b = some y → g b = some y) ∧ (∀ b, mine r2 b = none → g b = F b) :=
    ⟨fun b => match mine r2 b with | some x => some x | none => F b, fun b x h => by simp only [h], fun b h => by simp only [h]⟩
  obtain ⟨g, hg1, hg0⟩ := mk3
  obtain ⟨r3, hr31, hr30⟩ := mk2 (mine r2)
  obtain ⟨t3, ht31, ht30⟩ := mk2 g
  refine ⟨r3, t3, stars_append.2 ⟨ro, mine r2, fun b => ?_, ho, hown v l' hpo r2 hst2⟩, fun b => ?_, ?_⟩
  · cases hb : ro b with
    | none => rw [hr30 b hb]; exact .r _
    | some x => rw [hr31 b x hb, hm b x hb]; exact .l _
  · cases hb : ro b with
    | none =>
      rw [hr30 b hb, ht30 b hb]
      cases hb2 : mine r2 b with
      | none => rw [hg0 b hb2]; exact .r _
      | some y =>
        obtain ⟨hy1, hy2⟩ := hm2 b y hb2
        have h1 := hj2' b
        rw [hF0 b hb, hy1] at h1
        obtain ⟨y1, y2⟩ := y
        simp only at hy2
        subst hy2
        rw [hg1 b _ hb2]
        rcases h1.cases' with ⟨g1, g2⟩ | ⟨g1, g2⟩ | ⟨o, g1, g2, g3⟩
        · rw [g1]; exact .l _
        · cases g1
        · cases g1
    | some x =>
      rw [hr31 b x hb, ht31 b x hb]
      rcases (key b x hb).2.1 with h1 | ⟨h0, h1⟩
      · rw [h1]; exact .l _
      · obtain ⟨x1, x2⟩ := x
        simp only at h0 h1
        subst h0
        rw [h1]; exact .f _
  · intro b y hy
    cases hb : ro b with
    | some x =>
      rw [ht31 b x hb] at hy
      cases hy
      exact hsat' b (false, _) (hF1 b _ hb)
    | none =>
      rw [ht30 b hb] at hy
      cases hb2 : mine r2 b with
      | none =>
        rw [hg0 b hb2] at hy
        exact hsat' b y (by rw [hF0 b hb]; exact hy)
      | some z =>
        rw [hg1 b z hb2] at hy
        cases hy
        exact hs2 b y (hj2'.left (hm2 b y hb2).1)
/-- Frozen memory is kept. -/
theorem Trip.keep {P : Program} {f : FuncId} {args : List Value} {A : List HP} {Φ : FH → Prop} {post : Value → List HP → Prop} (h : Trip P f args (A ++ [fz Φ]) post) : Trip P f args (A ++ [fz Φ]) (fun v l => ∃ l', post v l' ∧ l = l' ++ [fz Φ]) := by
  refine Trip.mono (Trip.gh ?_ (Trip.frame h [fz Φ])) (fun v l ⟨l', h1, h2⟩ => ⟨l', h2, h1⟩)
  refine Gh.trans (Gh.perm (List.perm_append_comm (l₁ := A) (l₂ := [fz Φ]))) (Gh.trans (Gh.fzAlso Pk.here fun g h => h) (Gh.perm ?_))
  refine (List.Perm.cons _ (List.perm_append_comm (l₁ := [fz Φ]) (l₂ := A))).trans ?_
  exact (List.perm_append_comm (l₁ := [fz Φ]) (l₂ := A ++ [fz Φ]))
/-- A row as if frozen. -/
theorem row_iced {t : TypeId} {sz n : Nat} {v : Value} {xs : List Value} {r : Res} (h : rowA t sz v n xs r) : RdRow (fun b => (r b).map (·.2)) sz v n xs := by
  unfold rowA at h
  obtain ⟨hl, h⟩ := h
  refine ⟨hl, ?_⟩
  rcases h with ⟨rfl, rfl⟩ | ⟨b, o, cap, cur, rfl, h2, h3, h4, h5⟩
  · exact ⟨none, 0, rfl, .inl rfl⟩
  · refine ⟨_, cap, rfl, .inr ⟨b, o, rfl, ⟨cur, t, (0, 0), by simp only [h2]; rfl, fun j u hj => ?_⟩, h3⟩⟩
    have hj' : j < n * sz := by have := (List.getElem?_eq_some_iff.1 hj).1; omega
    rw [← h5, List.getElem?_take, if_pos hj', List.getElem?_drop] at hj
    simpa using hj
end Go.Proofs.YtomijhgicennbaaGreat
namespace Go.Proofs.YtomijhgicennbaaGreat
open Go
set_option maxHeartbeats 4000000
set_option linter.unusedSimpArgs false
set_option linter.unusedVariables false
set_option maxRecDepth 20000
theorem oks_bytesC : ∀ bs : List UInt8, oks (List.replicate bs.length (.i .u8)) (bytesC bs) = true
  | [] => rfl
  | b :: bs => by
    have := oks_bytesC bs
    simp only [List.length_cons, List.replicate_succ, bytesC, List.map_cons, oks, Bool.and_eq_true]
    exact ⟨rfl, this⟩
theorem oks_hc (h : Hash) : oks (List.replicate 32 (.i .u8)) (hc h) = true := by
  have := oks_bytesC h.l
  rw [h.h] at this
  exact this
theorem oks_voteC (v : Vote) : oks ([.i .i64, .i .i64, .i .i64] ++ (List.replicate 32 (.i .u8) ++ ([.i .i64] ++ (List.replicate 32 (.i .u8))))) (voteC v) = true :=
  oks_append (by rfl) (oks_append (oks_hc _) (oks_append (k1 := [.i .i64]) (xs := [vi v.from_]) rfl (oks_hc _)))
theorem hc_iff {a b : Hash} : hc a = hc b ↔ a = b := ⟨hc_inj, fun h => by rw [h]⟩
theorem voteC_iff {a b : Vote} : voteC a = voteC b ↔ a = b := by
  constructor
  · intro h
    unfold voteC at h
    obtain ⟨h1, h2⟩ := List.append_inj h (by simp)
    obtain ⟨h3, h4⟩ := List.append_inj h2 (by simp)
    obtain ⟨h5, h6⟩ := List.cons.inj h4
    simp only [List.cons.injEq, Value.int.injEq, true_and, and_true] at h1 h5
    obtain ⟨e1, e2, e3⟩ := h1
    have e4 := hc_inj h3
    have e5 := hc_inj h6
    obtain ⟨a1, a2, a3, a4, a5, a6⟩ := a
    obtain ⟨b1, b2, b3, b4, b5, b6⟩ := b
    simp only at *
    subst e1 e2 e3 e4 e5 h5
    rfl
  · rintro rfl
    rfl
theorem votes_cut {vs : List Vote} {i : Nat} {v : Vote} (h : vs[i]? = some v) : votesC vs = votesC (vs.take i) ++ (voteC v ++ votesC (vs.drop (i + 1))) := by
  obtain ⟨hi, rfl⟩ := List.getElem?_eq_some_iff.1 h
  unfold votesC
  rw [← List.flatten_cons, ← List.map_cons, ← List.flatten_append, ← List.map_append, ← List.drop_eq_getElem_cons hi, List.take_append_drop]
theorem votesSame_ok (va vb_ : Value) (a b : List Vote) (ha : a.length ≤ 1099511627776) (hb : b.length ≤ 1099511627776) :
    Trip Tryz.prog 36 [va, vb_] [fz (fun g => RdVotes g va a), fz (fun g => RdVotes g vb_ b)] (fun r l => r = vb (decide (a = b)) ∧ l = []) := by
  refine Trip.get Pk.here shape_votes ?_
  rintro ⟨a1, c1, rfl⟩
  refine Trip.get (Pk.next Pk.here) shape_votes ?_
  rintro ⟨a2, c2, rfl⟩
  by_cases hl : a.length = b.length
  · have hl' : (a.length : Int) = b.length := by omega
    refine Trip.of_body Tryz.func36 rfl Tryz.ntmps36 Tryz.results36 rfl ?_
    refine Wsr (Ls (Rdo.assign rfl) (Lnt (Wp.seq (Wsr (Ls (Rdo.move rfl) (Ls (Rdo.lenSlice rfl) (Ls (Rdo.move rfl) (Ls (Rdo.lenSlice rfl) (Ls (Rdo.nei rfl rfl) (Lnt (cL rfl (Wp.skip (Thn.n ?_)))))))))))))
    refine Wp.seq (Wsr (Ls (Rdo.assign rfl) (Lnt (Wp.block ?_))))
    refine Wp.loopE (fun k e h => ∃ i : Nat, i + k = a.length ∧ a.take i = b.take i ∧ e = [(0, .slice a1 a.length c1), (1, .slice a2 b.length c2), (4, vb false), (5, vi i)] ∧ h = [fz (fun g => RdVotes g (.slice a1 a.length c1) a), fz (fun g => RdVotes g (.slice a2 b.length c2) b)]) a.length
      (e0 := [(0, .slice a1 a.length c1), (1, .slice a2 b.length c2), (4, vb false), (5, vi (0 : Nat))]) (l0 := [fz (fun g => RdVotes g (.slice a1 a.length c1) a), fz (fun g => RdVotes g (.slice a2 b.length c2) b)]) (by repeat (first | exact trivial | refine ⟨rfl, ?_⟩)) (by repeat (first | exact trivial | refine ⟨rfl, ?_⟩)) Gk ⟨0, by simp, by simp, rfl, rfl⟩ ?_
    rintro k e h ⟨i, hik, hpre, rfl, rfl⟩
    by_cases hi : i < a.length
    · have hi' : (i : Int) < a.length := by omega
      obtain ⟨x, hx⟩ : ∃ x, a[i]? = some x := ⟨a[i], List.getElem?_eq_getElem hi⟩
      obtain ⟨y, hy⟩ : ∃ y, b[i]? = some y := ⟨b[i]'(by omega), List.getElem?_eq_getElem (by omega)⟩
      have cx := votes_cut hx
      have cy := votes_cut hy
      have lx : (votesC (a.take i)).length = i * 68 := by simp; omega
      have ly : (votesC (b.take i)).length = i * 68 := by simp; omega
      have lx2 := voteC_length x
      have ly2 := voteC_length y
      refine Wp.get Pk.here (row_some (by omega)) ?_
      rintro ⟨b1, o1, rfl⟩
      refine Wp.get (Pk.next Pk.here) (row_some (by omega)) ?_
      rintro ⟨b2, o2, rfl⟩
      by_cases hxy : x = y
      · subst hxy
        refine Wp.seq (Wsr (Ls (Rdo.move rfl) (Ls (Rdo.move rfl) (Ls (Rdo.lenSlice rfl) (Ls (Rdo.lti rfl rfl) (Lnt (cK rfl (Wp.skip (Thn.n (Wp.seq (Wp.block (Wp.seq ?_))))))))))))
        refine Wp.draw (by kernel_rfl) ?_
        refine Qt (i := 0) rfl (Rdo.move rfl) (Qt (i := 1) rfl (Rdo.move rfl) ?_)
        refine Qt (i := 2) rfl (Rdo.indexSlice rfl rfl (by omega)) ?_
        refine Qt (i := 4) rfl (Rdo.move rfl) (Qt (i := 5) rfl (Rdo.move rfl) ?_)
        refine Qt (i := 6) rfl (Rdo.indexSlice rfl rfl (by omega)) ?_
        refine WpR.phaseL (m := 1) #[true, true, true, true, true, true, true, true, false] 2 _ rfl (by kernel_rfl) Tk.rfl_ ?_
        refine At (i := 3) rfl (Rdo.load rfl (Lds.fzN (by assumption) (by first | assumption | omega | (simp <;> omega)) (by first | assumption | rfl))) ?_
        refine At (i := 7) rfl (Rdo.load rfl (Lds.next (Lds.fzN (by assumption) (by first | assumption | omega | (simp <;> omega)) (by first | assumption | rfl)))) ?_
        refine WpA.stop (by kernel_rfl) ?_
        refine WpR.lst (by simp only [List.cons_append, List.nil_append, List.append_nil]; exact rfl) ?_
        refine Qt (i := 8) rfl (Rdo.neagg rfl rfl (by first | rfl | exact oks_hc _ | exact oks_voteC _ | assumption) (by first | rfl | exact oks_hc _ | exact oks_voteC _ | assumption)) ?_
        refine WpR.done (by kernel_rfl) ?_
        refine Thn.n (cL rfl (Wp.skip (Blk.n (Thn.n (Wp.region (Ls (Rdo.move rfl) ?_))))))
        refine Ls (Rdo.succ rfl rfl (by omega)) ?_
        refine Ls (Rdo.assign rfl) (Lnt ?_)
        refine ⟨k - 1, _, _, by omega, ⟨i + 1, by omega, ?_, rfl, rfl⟩, (by repeat (first | exact trivial | refine ⟨rfl, ?_⟩)), Gk⟩
        rw [List.take_add_one, List.take_add_one, hpre, hx, hy]
      · have hne : ¬ voteC x = voteC y := fun h => hxy (voteC_iff.1 h)
        have hab : ¬ a = b := fun h => hxy (by rw [h, hy] at hx; exact (Option.some.inj hx).symm)
        refine Wp.seq (Wsr (Ls (Rdo.move rfl) (Ls (Rdo.move rfl) (Ls (Rdo.lenSlice rfl) (Ls (Rdo.lti rfl rfl) (Lnt (cK rfl (Wp.skip (Thn.n (Wp.seq (Wp.block (Wp.seq ?_))))))))))))
        refine Wp.draw (by kernel_rfl) ?_
        refine Qt (i := 0) rfl (Rdo.move rfl) (Qt (i := 1) rfl (Rdo.move rfl) ?_)
        refine Qt (i := 2) rfl (Rdo.indexSlice rfl rfl (by omega)) ?_
        refine Qt (i := 4) rfl (Rdo.move rfl) (Qt (i := 5) rfl (Rdo.move rfl) ?_)
        refine Qt (i := 6) rfl (Rdo.indexSlice rfl rfl (by omega)) ?_
        refine WpR.phaseL (m := 1) #[true, true, true, true, true, true, true, true, false] 2 _ rfl (by kernel_rfl) Tk.rfl_ ?_
        refine At (i := 3) rfl (Rdo.load rfl (Lds.fzN (by assumption) (by first | assumption | omega | (simp <;> omega)) (by first | assumption | rfl))) ?_
        refine At (i := 7) rfl (Rdo.load rfl (Lds.next (Lds.fzN (by assumption) (by first | assumption | omega | (simp <;> omega)) (by first | assumption | rfl)))) ?_
        refine WpA.stop (by kernel_rfl) ?_
        refine WpR.lst (by simp only [List.cons_append, List.nil_append, List.append_nil]; exact rfl) ?_
        refine Qt (i := 8) rfl (Rdo.neagg rfl rfl (by first | rfl | exact oks_hc _ | exact oks_voteC _ | assumption) (by first | rfl | exact oks_hc _ | exact oks_voteC _ | assumption)) ?_
        refine WpR.done (by kernel_rfl) ?_
        refine Thn.n (cK rfl (Wsr (Ls (Rdo.assign rfl) (Lnt (Wp.ret ?_)))))
        refine Blk.r ?_
        refine Thn.r ?_
        refine Thn.r ?_
        refine Blk.r ?_
        refine Thn.r ?_
        refine Rt (ResV.tmp rfl ResV.nil) ⟨(by first | rfl | (simp [packed] <;> done) | (simp_all [packed] <;> done)), rfl⟩
    · have hab : a = b := by
        rwa [List.take_of_length_le (by omega), List.take_of_length_le (by omega)] at hpre
      refine Wp.seq (Wsr (Ls (Rdo.move rfl) (Ls (Rdo.move rfl) (Ls (Rdo.lenSlice rfl) (Ls (Rdo.lti rfl rfl) (Lnt (cL rfl ?_)))))))
      refine Wp.exit ?_
      refine Thn.x ?_
      refine Thn.x ?_
      refine Blk.here ?_
      refine Thn.n (Wsr (Ls (Rdo.assign rfl) (Lnt (Wp.ret ?_))))
      refine Rt (ResV.tmp rfl ResV.nil) ⟨(by first | rfl | (simp [packed] <;> done) | (simp_all [packed] <;> done)), rfl⟩
  · have hl' : ¬ (a.length : Int) = b.length := by omega
    have hne : ¬ a = b := fun h => hl (by rw [h])
    refine Trip.of_body Tryz.func36 rfl Tryz.ntmps36 Tryz.results36 rfl ?_
    refine Wsr (Ls (Rdo.assign rfl) (Lnt (Wp.seq (Wsr (Ls (Rdo.move rfl) (Ls (Rdo.lenSlice rfl) (Ls (Rdo.move rfl) (Ls (Rdo.lenSlice rfl) (Ls (Rdo.nei rfl rfl) (Lnt (cK rfl (Wsr (Ls (Rdo.assign rfl) ?_)))))))))))))
    refine Lnt (Wp.ret ?_)
    refine Thn.r ?_
    refine Rt (ResV.tmp rfl ResV.nil) ⟨(by first | rfl | (simp [packed] <;> done) | (simp_all [packed] <;> done)), rfl⟩
theorem Gh.msg {l : List HP} {m : Msg} {x : (Option Addr × Nat) × (Option Addr × Nat)} : Gh (fz (fun g => RdMsg g (msgCs m x) m) :: l) (fz (fun g => RdBytes g (.slice x.1.1 m.value.length x.1.2) m.value) :: fz (fun g => RdVotes g (.slice x.2.1 m.votes.length x.2.2) m.votes) :: l) := by
  refine Gh.trans (Gh.fzImp (Ψ := fun g => RdBytes g (.slice x.1.1 m.value.length x.1.2) m.value ∧ RdVotes g (.slice x.2.1 m.votes.length x.2.2) m.votes) Pk.here ?_) (Gh.fz2 Pk.here)
  rintro g ⟨sv, vv, h, h1, h2⟩
  unfold msgCs msgC at h
  simp only [List.cons_append, List.nil_append, List.cons.injEq, true_and, and_true] at h
  obtain ⟨rfl, rfl⟩ := h
  exact ⟨h1, h2⟩
end Go.Proofs.YtomijhgicennbaaGreat
namespace Go.Proofs.YtomijhgicennbaaGreat
open Go
set_option maxHeartbeats 4000000
set_option linter.unusedSimpArgs false
set_option linter.unusedVariables false
set_option maxRecDepth 20000
theorem cmpIsNaN_ok (x : Int) : Trip Tryz.prog 226 [vi x] [] (fun r l => r = vb false ∧ l = []) := by
  refine Trip.of_body Tryz.func226 rfl Tryz.ntmps226 Tryz.results226 rfl ?_
  refine Wsr (Ls (Rdo.assign rfl) (Lnt (Wsr (Ls (Rdo.move rfl) (Ls (Rdo.move rfl) (Ls (Rdo.nei rfl rfl) (Ls (Rdo.assign rfl) (Lnt (Wp.ret ?_)))))))))
  refine Rt (ResV.tmp rfl ResV.nil) ⟨(by first | rfl | (simp [packed] <;> done) | (simp_all [packed] <;> done)), rfl⟩
theorem cmpLess_ok (x y : Int) : Trip Tryz.prog 206 [vi x, vi y] [] (fun r l => r = vb (decide (x < y)) ∧ l = []) := by
  refine Trip.of_body Tryz.func206 rfl Tryz.ntmps206 Tryz.results206 rfl ?_
  refine Wsr (Ls (Rdo.assign rfl) (Lnt (Wsr (Ls (Rdo.move rfl) ?_))))
  refine WpL.step (Sc (cmpIsNaN_ok _) rfl ?_)
  rintro _ _ ⟨rfl, rfl⟩
  refine Ll ?_
  refine Ls (Rdo.move rfl) (Lp rfl rfl (Lp rfl rfl (Lp rfl rfl (Ls (Rdo.pick_f rfl rfl) (Ls (Rdo.move rfl) (Lw rfl rfl (Rdo.move rfl) (Lw rfl rfl (Rdo.move rfl) (Lw rfl rfl (Rdo.lti rfl rfl) (Ls (Rdo.pick_f rfl rfl) (Ls (Rdo.assign rfl) (Lnt (Wp.ret ?_))))))))))))
  refine Rt (ResV.tmp rfl ResV.nil) ⟨rfl, rfl⟩
theorem bitsLen64_ok (x : Nat) (hx : x < 256) : Trip Tryz.prog 210 [.int .u64 x] [] (fun r l => ∃ k, r = vi k ∧ l = []) := by
  refine Trip.of_body Tryz.func210 rfl Tryz.ntmps210 Tryz.results210 rfl ?_
  refine Wsr (Ls (Rdo.assign rfl) (Lnt (Wp.seq (Wsr (Ls (Rdo.move rfl) (Ls (Rdo.gei rfl rfl) (Lnt (cL rfl (Wp.skip (Thn.n (Wp.seq (Wsr (Ls (Rdo.move rfl) ?_)))))))))))))
  refine Ls (Rdo.gei rfl rfl) (Lnt (cL rfl (Wp.skip (Thn.n (Wp.seq (Wsr (Ls (Rdo.move rfl) (Ls (Rdo.gei rfl rfl) (Lnt (cL rfl (Wp.skip (Thn.n (Wsr ?_)))))))))))))
  refine Ls (Rdo.move rfl) (Ls (Rdo.move rfl) (Ls (Rdo.convInt rfl) ?_))
  have hw : (IntKind.u8.wrap (x : Int)) = (x : Int) := wrap_in (by simp [IntKind.min, IntKind.signed]) (by simp [IntKind.max, IntKind.signed, IntKind.bits]; omega)
  rw [hw]
  refine Ls (Rdo.indexStr rfl rfl (getElem?_pos _ _ ?_)) ?_
  · exact hx
  refine Ls (Rdo.convInt rfl) (Ls (Rdo.add rfl rfl) (Ls (Rdo.assign rfl) (Lnt (Wp.ret ?_))))
  refine Rt (ResV.tmp rfl ResV.nil) ⟨_, ⟨rfl, rfl⟩⟩
theorem bitsLen_ok (x : Nat) (hx : x < 256) : Trip Tryz.prog 189 [.int .u64 x] [] (fun r l => ∃ k, r = vi k ∧ l = []) := by
  refine Trip.of_body Tryz.func189 rfl Tryz.ntmps189 Tryz.results189 rfl ?_
  refine Wsr (Ls (Rdo.assign rfl) (Lnt (Wp.seq ?_)))
  refine Wp.condF rfl ?_
  refine Wp.skip (Thn.n (Wsr (Ls (Rdo.move rfl) ?_)))
  refine WpL.step (Sc (bitsLen64_ok _ (by first | rfl | assumption | omega | (simp <;> done) | (simp <;> omega) | (simp [IntKind.bits]; omega) | simp_all)) rfl ?_)
  rintro _ _ ⟨v13_0, ⟨rfl, rfl⟩⟩
  refine Ll ?_
  refine Ls (Rdo.assign rfl) (Lnt (Wp.ret ?_))
  refine Rt (ResV.tmp rfl ResV.nil) ⟨_, ⟨rfl, rfl⟩⟩
theorem insertion_ok (xs : List Int) (v : Value) (hn : xs.length ≤ 1099511627776) :
    Trip Tryz.prog 200 [v, vi 0, vi xs.length] [rowA 3 1 v xs.length (xs.map vi)]
      (fun r l => r = .tuple #[] ∧ ∃ ys : List Int, ys.Perm xs ∧ ys.Pairwise (· ≤ ·) ∧ l = [rowA 3 1 v xs.length (ys.map vi)]) := by
  generalize hN : xs.length = N
  rw [hN] at hn
  refine Trip.of_body Tryz.func200 rfl Tryz.ntmps200 Tryz.results200 rfl ?_
  refine Wsr (Ls (Rdo.move rfl) ?_)
  refine Ls (Rdo.add64 rfl rfl (by first | omega | (dsimp only; omega))) ?_
  refine Ls (Rdo.assign rfl) (Lnt (Wp.block ?_))
  refine Wp.loopE (fun k e h => ∃ (i : Nat) (cur : List Int), 1 ≤ i ∧ (i + k = N ∨ (k = 0 ∧ N ≤ i)) ∧ cur.Perm xs ∧ (cur.take i).Pairwise (· ≤ ·) ∧ e = [(0, v), (1, vi 0), (2, vi N), (6, vi i)] ∧ h = [rowA 3 1 v N (cur.map vi)]) (N - 1)
    (e0 := [(0, v), (1, vi 0), (2, vi N), (6, vi (1 : Nat))]) (l0 := [rowA 3 1 v N (xs.map vi)]) (by repeat (first | exact trivial | refine ⟨rfl, ?_⟩)) (by repeat (first | exact trivial | refine ⟨rfl, ?_⟩)) Gk ⟨1, xs, by omega, by omega, List.Perm.refl _, by cases xs <;> simp, rfl, rfl⟩ ?_
  rintro k e h ⟨i, cur, hi1, hik, hperm, hsort, rfl, rfl⟩
  have hcl : cur.length = N := by rw [hperm.length_eq, hN]
  by_cases hi : i < N
  · refine Wp.get Pk.here (fun r => rowA_at i hi) ?_
    rintro ⟨b, o, cap, rfl⟩
    refine Wp.seq (Wsr (Ls (Rdo.move rfl) (Ls (Rdo.move rfl) (Ls (Rdo.lti rfl rfl) (Lnt (cK rfl (Wp.skip (Thn.n (Wp.seq (Wp.block (Wsr (Ls (Rdo.move rfl) (Ls (Rdo.assign rfl) ?_)))))))))))))
    refine Lnt (Wp.block ?_)
    obtain ⟨x, hx⟩ : ∃ x, cur[i]? = some x := ⟨cur[i]'(by omega), List.getElem?_eq_getElem (by omega)⟩
    refine Wp.loopE (fun j e h => ∃ (A B : List Int), A.length = j ∧ j + B.length = i ∧ cur.take i = A ++ B ∧ (∀ y ∈ B, x < y) ∧
        e = [(0, .slice (some ⟨b, o, none⟩) N cap), (1, vi 0), (2, vi N), (6, vi i), (7, vi j)] ∧ h = [rowA 3 1 (.slice (some ⟨b, o, none⟩) N cap) N ((A ++ x :: (B ++ cur.drop (i + 1))).map vi)]) i
      (e0 := [(0, .slice (some ⟨b, o, none⟩) N cap), (1, vi 0), (2, vi N), (6, vi i), (7, vi i)]) (l0 := [rowA 3 1 (.slice (some ⟨b, o, none⟩) N cap) N (cur.map vi)]) (by repeat (first | exact trivial | refine ⟨rfl, ?_⟩)) (by repeat (first | exact trivial | refine ⟨rfl, ?_⟩)) Gk
      ⟨cur.take i, [], by simp; omega, by simp, by simp, by simp, rfl, by
        have e1 : cur.take i ++ x :: ([] ++ cur.drop (i + 1)) = cur := by
          obtain ⟨hi', rfl⟩ := List.getElem?_eq_some_iff.1 hx
          rw [List.nil_append, ← List.drop_eq_getElem_cons hi', List.take_append_drop]
        rw [e1]⟩ ?_
    rintro j e h ⟨A, B, hA, hj, htake, hlt, rfl, rfl⟩
    have hperm2 : (A ++ x :: (B ++ cur.drop (i + 1))).Perm xs := by
      refine List.Perm.trans ?_ hperm
      obtain ⟨hi', rfl⟩ := List.getElem?_eq_some_iff.1 hx
      have e1 : cur = cur.take i ++ cur[i] :: cur.drop (i + 1) := by rw [← List.drop_eq_getElem_cons hi', List.take_append_drop]
      conv => rhs; rw [e1, htake]
      simp only [List.append_assoc]
      exact List.Perm.append_left A List.perm_middle.symm
    have hdone : (∀ y ∈ A, y ≤ x) → ((A ++ x :: (B ++ cur.drop (i + 1))).take (i + 1)).Pairwise (· ≤ ·) := by
      intro hAx
      have e1 : (A ++ x :: (B ++ cur.drop (i + 1))).take (i + 1) = A ++ x :: B := by
        rw [show A ++ x :: (B ++ cur.drop (i + 1)) = (A ++ x :: B) ++ cur.drop (i + 1) by simp]
        exact List.take_left' (by simp; omega)
      rw [e1]
      rw [htake, List.pairwise_append] at hsort
      obtain ⟨h1, h2, h3⟩ := hsort
      rw [List.pairwise_append]
      refine ⟨h1, List.pairwise_cons.2 ⟨fun y hy => Int.le_of_lt (hlt y hy), h2⟩, fun a ha b hb => ?_⟩
      rcases List.mem_cons.1 hb with rfl | hb
      · exact hAx a ha
      · exact h3 a ha b hb
    have hlen2 : (A ++ x :: (B ++ cur.drop (i + 1))).length = N := by rw [hperm2.length_eq, hN]
    rcases List.eq_nil_or_concat A with rfl | ⟨A', y, rfl⟩
    · have hj0 : j = 0 := by simpa using hA.symm
      subst hj0
      refine Wp.seq (Wp.seq ?_)
      refine Wp.draw (by kernel_rfl) ?_
      refine Qt (i := 0) rfl (Rdo.move rfl) (Qt (i := 1) rfl (Rdo.move rfl) (Qt (i := 2) rfl (Rdo.gti rfl rfl) (Qt (i := 3) rfl (Rdo.move rfl) (Qp (i := 4) rfl rfl rfl (Qp (i := 5) rfl rfl rfl (Qp (i := 6) rfl rfl rfl (Qp (i := 7) rfl rfl rfl (Qp (i := 8) rfl rfl rfl (Qp (i := 9) rfl rfl rfl (Qp (i := 10) rfl rfl rfl (Qp (i := 11) rfl rfl rfl (Qp (i := 12) rfl rfl rfl (Qp (i := 13) rfl rfl rfl ?_)))))))))))))
      refine Qt (i := 14) rfl (Rdo.pick_f rfl rfl) ?_
      refine WpR.done (by kernel_rfl) ?_
      refine Thn.n ?_
      refine Wp.condF rfl ?_
      refine Wp.exit ?_
      refine Thn.x ?_
      refine Thn.x ?_
      refine Blk.here ?_
      refine Blk.n (Thn.n (Wp.region (Ls (Rdo.move rfl) ?_)))
      refine Ls (Rdo.succ rfl rfl (by omega)) ?_
      refine Ls (Rdo.assign rfl) (Lnt ?_)
      refine ⟨k - 1, _, _, by omega, ⟨i + 1, _, by omega, by omega, hperm2, hdone (by simp), rfl, rfl⟩, (by repeat (first | exact trivial | refine ⟨rfl, ?_⟩)), Gk⟩
    · obtain ⟨j', rfl⟩ : ∃ j', j = j' + 1 := ⟨A'.length, by simpa using hA.symm⟩
      have hA' : A'.length = j' := by simpa using hA
      have l1 : ((A'.concat y ++ x :: (B ++ cur.drop (i + 1))).map vi)[j' + 1]? = some (vi x) := by simp [hA', List.getElem?_append_right]
      have l2 : ((A'.concat y ++ x :: (B ++ cur.drop (i + 1))).map vi)[j']? = some (vi y) := by simp [hA', List.getElem?_append_right]
      have hll : ((A'.concat y ++ x :: (B ++ cur.drop (i + 1))).map vi).length = N := by rw [List.length_map, hlen2]
      by_cases hxy : x < y
      · refine Wp.seq (Wp.seq ?_)
        refine Wp.draw (by kernel_rfl) ?_
        refine Qt (i := 0) rfl (Rdo.move rfl) (Qt (i := 1) rfl (Rdo.move rfl) (Qt (i := 2) rfl (Rdo.gti rfl rfl) (Qt (i := 3) rfl (Rdo.move rfl) ?_)))
        refine WpR.tT 19 rfl (by first | rfl | assumption | (simp only [decide_eq_true_eq, decide_eq_false_iff_not, Bool.not_eq_true', Bool.not_eq_false', List.length_cons, List.length_nil]; first | assumption | omega) | (simp <;> done) | (simp <;> omega)) ?_
        refine Qw (i := 4) rfl rfl rfl (Rdo.move rfl) (Qw (i := 5) rfl rfl rfl (Rdo.move rfl) ?_)
        refine Qw (i := 6) rfl rfl rfl (Rdo.indexSlice rfl rfl (by omega)) ?_
        refine Qw (i := 8) rfl rfl rfl (Rdo.move rfl) (Qw (i := 9) rfl rfl rfl (Rdo.move rfl) ?_)
        refine Qw (i := 10) rfl rfl rfl (Rdo.pred rfl rfl (by omega)) ?_
        refine Qw (i := 11) rfl rfl rfl (Rdo.indexSlice rfl rfl (by omega)) ?_
        refine WpR.phaseL (m := 0) #[true, true, true, true, true, true, true, true, true, true, true, true, true, true, true] 4 _ rfl (by kernel_rfl) (Tk.cons Pk.here Tk.nil) ?_
        refine Aw (i := 7) rfl rfl rfl (Rdo.load rfl (Lds.row1 (by assumption))) ?_
        refine Aw (i := 12) rfl rfl rfl (Rdo.load rfl (Lds.row1 (by assumption))) ?_
        refine WpA.oneG (i := 13) rfl rfl rfl rfl (by kernel_rfl) (Sc (cmpLess_ok _ _) rfl ?_)
        rintro _ _ ⟨rfl, rfl⟩
        refine WpA.lst (by simp only [List.cons_append, List.nil_append]; exact rfl) ?_
        refine At (i := 14) rfl (Rdo.pick_t rfl rfl) ?_
        refine WpA.stop (by kernel_rfl) ?_
        refine Ql ?_
        refine WpR.done (by kernel_rfl) ?_
        refine Thn.n (cK rfl (Wp.skip (Thn.n (Wp.seq (Wp.block ?_)))))
        refine Wp.draw (by kernel_rfl) ?_
        refine Qt (i := 0) rfl (Rdo.move rfl) (Qt (i := 1) rfl (Rdo.move rfl) (Qt (i := 2) rfl (Rdo.move rfl) (Qt (i := 3) rfl (Rdo.move rfl) ?_)))
        refine Qt (i := 4) rfl (Rdo.pred rfl rfl (by omega)) ?_
        refine Qt (i := 5) rfl (Rdo.move rfl) (Qt (i := 6) rfl (Rdo.move rfl) ?_)
        refine Qt (i := 7) rfl (Rdo.pred rfl rfl (by omega)) ?_
        refine Qt (i := 8) rfl (Rdo.indexSlice rfl rfl (by omega)) ?_
        refine Qt (i := 10) rfl (Rdo.move rfl) (Qt (i := 11) rfl (Rdo.move rfl) ?_)
        refine Qt (i := 12) rfl (Rdo.indexSlice rfl rfl (by omega)) ?_
        refine WpR.phaseL (m := 4) #[true, true, true, true, true, true, true, true, true, true, true, true, true, true, false, false, false, false] 2 _ rfl (by kernel_rfl) Tk.rfl_ ?_
        refine At (i := 9) rfl (Rdo.load rfl (Lds.row1 (by assumption))) ?_
        refine At (i := 13) rfl (Rdo.load rfl (Lds.row1 (by assumption))) ?_
        refine WpA.stop (by kernel_rfl) ?_
        refine WpR.lst (by simp only [List.cons_append, List.nil_append, List.append_nil]; exact rfl) ?_
        refine Qt (i := 14) rfl (Rdo.indexSlice rfl rfl (by omega)) ?_
        refine Qo (i := 15) rfl (St rfl rfl (VC.i _ _) ?_)
        refine Qt (i := 16) rfl (Rdo.indexSlice rfl rfl (by omega)) ?_
        refine Qo (i := 17) rfl (St rfl rfl (VC.i _ _) ?_)
        refine WpR.done (by kernel_rfl) ?_
        refine Blk.n (Thn.n (Wp.region (Ls (Rdo.move rfl) ?_)))
        refine Ls (Rdo.pred rfl rfl (by omega)) ?_
        refine Ls (Rdo.assign rfl) (Lnt ?_)
        refine ⟨j', _, _, by omega, ⟨A', y :: B, hA', by simp; omega, by rw [htake]; simp, ?_, rfl, rfl⟩, (by repeat (first | exact trivial | refine ⟨rfl, ?_⟩)), ?_⟩
        · intro z hz
          rcases List.mem_cons.1 hz with rfl | hz
          · exact hxy
          · exact hlt z hz
        · have e2 : (((A'.concat y ++ x :: (B ++ cur.drop (i + 1))).map vi).set (j' + 1) (vi y)).set j' (vi x) = (A' ++ x :: (y :: B ++ cur.drop (i + 1))).map vi := by
            subst hA'
            simp [List.set_append]
          rw [e2]
          exact Gk
      · refine Wp.seq (Wp.seq ?_)
        refine Wp.draw (by kernel_rfl) ?_
        refine Qt (i := 0) rfl (Rdo.move rfl) (Qt (i := 1) rfl (Rdo.move rfl) (Qt (i := 2) rfl (Rdo.gti rfl rfl) (Qt (i := 3) rfl (Rdo.move rfl) ?_)))
        refine WpR.tT 19 rfl (by first | rfl | assumption | (simp only [decide_eq_true_eq, decide_eq_false_iff_not, Bool.not_eq_true', Bool.not_eq_false', List.length_cons, List.length_nil]; first | assumption | omega) | (simp <;> done) | (simp <;> omega)) ?_
        refine Qw (i := 4) rfl rfl rfl (Rdo.move rfl) (Qw (i := 5) rfl rfl rfl (Rdo.move rfl) ?_)
        refine Qw (i := 6) rfl rfl rfl (Rdo.indexSlice rfl rfl (by omega)) ?_
        refine Qw (i := 8) rfl rfl rfl (Rdo.move rfl) (Qw (i := 9) rfl rfl rfl (Rdo.move rfl) ?_)
        refine Qw (i := 10) rfl rfl rfl (Rdo.pred rfl rfl (by omega)) ?_
        refine Qw (i := 11) rfl rfl rfl (Rdo.indexSlice rfl rfl (by omega)) ?_
        refine WpR.phaseL (m := 0) #[true, true, true, true, true, true, true, true, true, true, true, true, true, true, true] 4 _ rfl (by kernel_rfl) (Tk.cons Pk.here Tk.nil) ?_
        refine Aw (i := 7) rfl rfl rfl (Rdo.load rfl (Lds.row1 (by assumption))) ?_
        refine Aw (i := 12) rfl rfl rfl (Rdo.load rfl (Lds.row1 (by assumption))) ?_
        refine WpA.oneG (i := 13) rfl rfl rfl rfl (by kernel_rfl) (Sc (cmpLess_ok _ _) rfl ?_)
        rintro _ _ ⟨rfl, rfl⟩
        refine WpA.lst (by simp only [List.cons_append, List.nil_append]; exact rfl) ?_
        refine At (i := 14) rfl (Rdo.pick_t rfl rfl) ?_
        refine WpA.stop (by kernel_rfl) ?_
        refine Ql ?_
        refine WpR.done (by kernel_rfl) ?_
        refine Thn.n (cL rfl ?_)
        refine Wp.exit ?_
        refine Thn.x ?_
        refine Thn.x ?_
        refine Blk.here ?_
        refine Blk.n (Thn.n (Wp.region (Ls (Rdo.move rfl) ?_)))
        refine Ls (Rdo.succ rfl rfl (by omega)) ?_
        refine Ls (Rdo.assign rfl) (Lnt ?_)
        refine ⟨k - 1, _, _, by omega, ⟨i + 1, _, by omega, by omega, hperm2, hdone ?_, rfl, rfl⟩, (by repeat (first | exact trivial | refine ⟨rfl, ?_⟩)), Gk⟩
        intro z hz
        have hz' : z ∈ A' ∨ z = y := by simpa using hz
        rw [htake, List.pairwise_append] at hsort
        obtain ⟨h1, h2, h3⟩ := hsort
        rw [List.concat_eq_append, List.pairwise_append] at h1
        rcases hz' with hz' | rfl
        · have := h1.2.2 z hz' y (by simp)
          omega
        · omega
  · refine Wp.seq (Wsr (Ls (Rdo.move rfl) (Ls (Rdo.move rfl) (Ls (Rdo.lti rfl rfl) (Lnt (cL rfl ?_))))))
    refine Wp.exit ?_
    refine Thn.x ?_
    refine Thn.x ?_
    refine Blk.here ?_
    refine Ret.end_ ResV.nil Gk ⟨rfl, cur, hperm, ?_, rfl⟩
    rwa [List.take_of_length_le (by omega)] at hsort
end Go.Proofs.YtomijhgicennbaaGreat
namespace Go.Proofs.YtomijhgicennbaaGreat
open Go
set_option maxHeartbeats 4000000
set_option linter.unusedSimpArgs false
set_option linter.unusedVariables false
set_option maxRecDepth 20000
theorem pdq_ok (xs : List Int) (v : Value) (lim : Int) (hn : xs.length ≤ 12) :
    Trip Tryz.prog 188 [v, vi 0, vi xs.length, vi lim] [rowA 3 1 v xs.length (xs.map vi)]
      (fun r l => r = .tuple #[] ∧ ∃ ys : List Int, ys.Perm xs ∧ ys.Pairwise (· ≤ ·) ∧ l = [rowA 3 1 v xs.length (ys.map vi)]) := by
  refine Trip.of_body Tryz.func188 rfl Tryz.ntmps188 Tryz.results188 rfl ?_
  refine Wsr (Ls (Rdo.assign rfl) (Lnt (Wsr (Ls (Rdo.assign rfl) (Lnt (Wp.block ?_))))))
  refine Wp.loopOnce ?_
  refine Wp.block (Wsr (Ls (Rdo.move rfl) (Ls (Rdo.move rfl) ?_)))
  refine Ls (Rdo.sub64 rfl rfl (by omega)) ?_
  refine Ls (Rdo.assign rfl) (Lnt (Wp.seq (Wsr (Ls (Rdo.move rfl) (Ls (Rdo.lei rfl rfl) (Lnt (cK rfl (Wsr (Ls (Rdo.move rfl) (Ls (Rdo.move rfl) (Ls (Rdo.move rfl) ?_)))))))))))
  refine WpL.step (Sc (insertion_ok _ _ (by first | rfl | assumption | omega | (simp <;> done) | (simp <;> omega) | (simp [IntKind.bits]; omega) | simp_all)) rfl ?_)
  rintro _ _ ⟨rfl, ⟨v23_0, ⟨hv23_1, ⟨hv23_2, rfl⟩⟩⟩⟩
  refine Ll ?_
  refine Lnt (Wp.ret ?_)
  refine Thn.r ?_
  refine Blk.r ?_
  refine Thn.r ?_
  refine Blk.r ?_
  refine Rt ResV.nil ⟨rfl, ⟨_, ⟨(by first | assumption | omega | (simp <;> done) | (simp <;> omega)), ⟨(by first | assumption | omega | (simp <;> done) | (simp <;> omega)), rfl⟩⟩⟩⟩
theorem sort_ok (xs : List Int) (v : Value) (hn : xs.length ≤ 12) :
    Trip Tryz.prog 168 [v] [rowA 3 1 v xs.length (xs.map vi)]
      (fun r l => r = .tuple #[] ∧ ∃ ys : List Int, ys.Perm xs ∧ ys.Pairwise (· ≤ ·) ∧ l = [rowA 3 1 v xs.length (ys.map vi)]) := by
  refine Trip.get Pk.here (fun r => rowA_shape) ?_
  rintro ⟨a0, c0, rfl⟩
  refine Trip.of_body Tryz.func168 rfl Tryz.ntmps168 Tryz.results168 rfl ?_
  refine Wsr (Ls (Rdo.move rfl) (Ls (Rdo.lenSlice rfl) (Ls (Rdo.assign rfl) (Lnt (Wp.region (Ls (Rdo.move rfl) (Ls (Rdo.move rfl) (Ls (Rdo.move rfl) (Ls (Rdo.convInt rfl) ?_)))))))))
  refine WpL.step (Sc (bitsLen_ok _ (by first | rfl | assumption | omega | (simp <;> done) | (simp <;> omega) | (simp [IntKind.bits]; omega) | simp_all)) rfl ?_)
  rintro _ _ ⟨v13_0, ⟨rfl, rfl⟩⟩
  refine Ll ?_
  refine WpL.step (Sc (pdq_ok _ _ _ (by first | rfl | assumption | omega | (simp <;> done) | (simp <;> omega) | (simp [IntKind.bits]; omega) | simp_all)) rfl ?_)
  rintro _ _ ⟨rfl, ⟨v16_0, ⟨hv16_1, ⟨hv16_2, rfl⟩⟩⟩⟩
  refine Ll ?_
  refine WpL.nil ?_
  refine Ret.end_ ResV.nil Gk ⟨rfl, ⟨_, ⟨(by first | assumption | omega | (simp <;> done) | (simp <;> omega)), ⟨(by first | assumption | omega | (simp <;> done) | (simp <;> omega)), rfl⟩⟩⟩⟩
/-- Numbers that rise, out of numbers. -/
theorem sorted_unique {xs ys : List Int} (h : xs.Perm ys) (hx : xs.Pairwise (· ≤ ·)) (hy : ys.Pairwise (· ≤ ·)) : xs = ys :=
  List.Perm.eq_of_pairwise (fun a b _ _ h1 h2 => Int.le_antisymm h1 h2) hx hy h
theorem appendSeq_ok (gf : FuncId) (cap : List Value) (own : List HP) (S : List Int → Prop) (hS : ∀ xs, S xs → xs.length ≤ 12) (hf : callable Tryz.prog gf = true) (hit : IterOK Tryz.prog gf cap (fun k : Int => [vi k]) [] own S) :
    Trip Tryz.prog 211 [vnil, .func (.func gf) #[] cap.toArray] own
      (fun r l => ∃ xs, S xs ∧ l = rowA 3 1 r xs.length (xs.map vi) :: own) := by
  refine Trip.of_body Tryz.func211 rfl Tryz.ntmps211 Tryz.results211 rfl ?_
  refine Wsr ?_
  (refine WpL.step (Stp.boxV rfl (VC.sl _ _ _) rfl ?_); intro nb2)
  refine Ls (Rdo.assign rfl) (Lnt (Wp.seq (Wsr (Ls (Rdo.move rfl) (Lnt (Wp.block ?_))))))
  refine Wp.rangeFunc (ps := [7]) rfl hf hit (fun _ => rfl) rfl (fun pre l => ∃ v, l = [cel nb2 71 [v], rowA 3 1 v pre.length (pre.map vi)]) (fun _ _ _ => False)
    (l0 := [cel nb2 71 [vnil], rowA 3 1 vnil 0 []]) (Gh.trans (Gh.nil 3 1) (Gh.perm (List.Perm.swap _ _ _))) ⟨vnil, rfl⟩ (Bor.nil _) ?_ ?_ ?_
  · rintro lp rec pre x rest _ hs ⟨v, rfl⟩ st pe
    have hlen := hS _ hs
    simp at hlen
    refine Wp.region (Ls (Rdo.assign rfl) (WpL.nil ?_))
    refine ⟨rfl, fun st pe => ?_⟩
    refine Wp.block (Wp.region (Ls (Rdo.load rfl (Lds.one rfl)) (Ls (Rdo.move rfl) ?_)))
    (refine WpL.step (Stp.sliceV rfl rfl (VCs.cons (VC.i _ _) (by first | rfl | assumption | (simp <;> done)) VCs.nil) (by simp only [List.cons_append, List.nil_append, List.append_nil]; exact rfl) rfl rfl ?_); intro nb4)
    (refine WpL.step (Stp.appendP rfl rfl (Pk.next (Pk.next Pk.here)) (Src.cel (by first | rfl | (simp <;> done) | (simp <;> omega))) (by first | rfl | assumption | (simp <;> done) | (simp <;> omega)) (by first | assumption | exact oneCells1 rfl | exact oneCells1 (by assumption) | exact oneCells_bytesC _ | exact oneCells_votesC _ | (simp [oneCells, Value.oneCell'] <;> done)) (by first | omega | (simp <;> omega)) (by first | omega | (simp <;> omega)) rfl (by first | rfl | (simp <;> done)) ?_); intro na5 nc5)
    refine WpL.step (Stp.storeV rfl rfl (VC.sl _ _ _) rfl (Sts.next (Sts.next (Sp (oneCells1 rfl)))) ?_)
    refine WpL.nil (Blk.n ?_)
    exact ⟨_, Gh.tk (Tk.cons (Pk.next (Pk.next Pk.here)) (Tk.cons Pk.here Tk.nil)), _, by rw [List.length_append, List.map_append]; rfl⟩
  · rintro xs _ hs ⟨v, rfl⟩
    refine Blk.n (Thn.n (Wsr (Ls (Rdo.load rfl (Lds.one rfl)) (Ls (Rdo.assign rfl) (Lnt (Wp.ret ?_))))))
    exact Ret.now (ResV.tmp rfl ResV.nil) (Gh.drop Pk.here) ⟨xs, hs, rfl⟩
  · intro j pre l' h
    exact h.elim
theorem collect_ok (gf : FuncId) (cap : List Value) (own : List HP) (S : List Int → Prop) (hS : ∀ xs, S xs → xs.length ≤ 12) (hf : callable Tryz.prog gf = true) (hit : IterOK Tryz.prog gf cap (fun k : Int => [vi k]) [] own S) :
    Trip Tryz.prog 193 [.func (.func gf) #[] cap.toArray] own
      (fun r l => ∃ xs, S xs ∧ l = rowA 3 1 r xs.length (xs.map vi) :: own) := by
  refine Trip.of_body Tryz.func193 rfl Tryz.ntmps193 Tryz.results193 rfl ?_
  refine Wsr (Ls (Rdo.assign rfl) (Lnt (Wsr (Ls (Rdo.move rfl) ?_))))
  refine WpL.step (Stp.call (appendSeq_ok gf cap own S hS hf hit) (by kernel_rfl) rfl Tk.rfl_ rfl ?_)
  rintro r _ ⟨xs, hs, rfl⟩
  refine WpL.lst (List.append_nil _) ?_
  refine Ls (Rdo.assign rfl) (Lnt (Wp.ret ?_))
  exact Ret.now (ResV.tmp rfl ResV.nil) Gh.rfl_ ⟨xs, hs, rfl⟩
/-- The numbers of an iterator, sorted: whatever the order in which they come. -/
theorem sorted_ok (gf : FuncId) (cap : List Value) (own : List HP) (ks : List Int) (hks : ks.length ≤ 12) (hsort : ks.Pairwise (· ≤ ·)) (hf : callable Tryz.prog gf = true) (hit : IterOK Tryz.prog gf cap (fun k : Int => [vi k]) [] own (fun xs => xs.Perm ks)) :
    Trip Tryz.prog 177 [.func (.func gf) #[] cap.toArray] own
      (fun r l => l = rowA 3 1 r ks.length (ks.map vi) :: own) := by
  refine Trip.of_body Tryz.func177 rfl Tryz.ntmps177 Tryz.results177 rfl ?_
  refine Wsr (Ls (Rdo.assign rfl) (Lnt (Wsr (Ls (Rdo.move rfl) ?_))))
  refine WpL.step (Stp.call (collect_ok gf cap own _ (fun xs h => by rw [h.length_eq]; exact hks) hf hit) (by kernel_rfl) rfl Tk.rfl_ rfl ?_)
  rintro r _ ⟨xs, hs, rfl⟩
  refine WpL.lst (List.append_nil _) ?_
  refine Ls (Rdo.assign rfl) (Lnt (Wsr (Ls (Rdo.move rfl) ?_)))
  refine WpL.step (Stp.call (sort_ok xs r (by rw [hs.length_eq]; exact hks)) (by kernel_rfl) rfl (Tk.cons Pk.here Tk.nil) rfl ?_)
  rintro _ _ ⟨rfl, ys, h1, h2, rfl⟩
  have e1 : ys = ks := sorted_unique (h1.trans hs) h2 hsort
  subst e1
  rw [h1.length_eq.symm]
  refine Ll ?_
  refine Lnt (Wsr (Ls (Rdo.move rfl) (Ls (Rdo.assign rfl) (Lnt (Wp.ret ?_)))))
  exact Ret.now (ResV.tmp rfl ResV.nil) Gh.rfl_ rfl
theorem complete_ {l m : List Int} (hl : l.Nodup) (hm : m.Nodup) (hs : ∀ y ∈ l, y ∈ m) : ∃ rest, (l ++ rest).Perm m := by
  refine ⟨m.filter (fun y => decide (y ∉ l)), (List.perm_ext_iff_of_nodup ?_ hm).2 fun a => ?_⟩
  · rw [List.nodup_append]
    refine ⟨hl, hm.filter _, fun a ha b hb e => ?_⟩
    have := (List.mem_filter.1 hb).2
    simp only [decide_eq_true_eq] at this
    exact this (e ▸ ha)
  · by_cases ha : a ∈ l
    · simp [ha, hs a ha]
    · simp [ha]
end Go.Proofs.YtomijhgicennbaaGreat
namespace Go.Proofs.YtomijhgicennbaaGreat
open Go
set_option maxHeartbeats 4000000
set_option linter.unusedSimpArgs false
set_option linter.unusedVariables false
set_option maxRecDepth 20000
instance {P : Program} {e : Env} {t e' sz : Nat} {zs : List Value} [EL P t e'] [SZ P e' sz] [ZV P e' zs] : MK P e (.buildSlice t 0 (#[] : Array (Nat × Operand))) (fun nb => .slice (some ⟨nb, 0, none⟩) 0 0) (fun nb => rowA e' sz (.slice (some ⟨nb, 0, none⟩) 0 0) 0 []) := ⟨fun hd h => Stp.slice0 hd h⟩
theorem MK.sl {P : Program} {e : Env} {t e' sz k : Nat} {ps : List (Nat × Operand)} {vs zs cs cs' : List Value} [EL P t e'] [SZ P e' sz] [ZV P e' zs] (hx : evls e (ps.map (·.2)) = some vs) (hi : ps.map (·.1) = List.range k) (hv : VCs sz vs cs) (hcs : cs = cs') (hsmall : Nat.ble (k * sz) 16777216 = true) :
    MK P e (.buildSlice t k ps.toArray) (fun nb => .slice (some ⟨nb, 0, none⟩) k k) (fun nb => cel nb e' cs') := ⟨fun hd h => Stp.sliceV hx hi hv hcs hsmall hd h⟩
theorem Src.row {P : Program} {l : List HP} {t : TypeId} {sz n : Nat} {v : Value} {xs : List Value} : Src P (rowA t sz v n xs :: l) sz v n xs := by
  unfold Src
  intro F w hl
  obtain ⟨r, hr, _⟩ := hl.sees
  unfold rowA at hr
  obtain ⟨hlen, h⟩ := hr
  rcases h with ⟨rfl, rfl⟩ | ⟨b, o, cap, cur, rfl, _⟩
  · obtain rfl : xs = [] := List.eq_nil_of_length_eq_zero (by simpa using hlen)
    have := Src.nil (P := P) (C := rowA t sz (.slice none 0 0) 0 [] :: l) (sz := sz)
    unfold Src at this
    exact this F w hl
  · have := Src.of_cells (P := P) (C := rowA t sz (.slice (some ⟨b, o, none⟩) n cap) n xs :: l) (sz := sz) (b := b) (off := o) (c := cap) hlen (fun F w hl j u hj => row_cell hl j u hj)
    unfold Src at this
    exact this F w hl
theorem Sts.rowF {P : Program} {l : List HP} {t : TypeId} {sz n cap b o i off : Nat} {xs : List Value} {v : Value} (hi : i * sz + off < xs.length) (hone : v.oneCell' = true) :
    Sts P (rowA t sz (.slice (some ⟨b, o, none⟩) n cap) n xs :: l) ⟨b, o + i * sz + off, none⟩ [v] (rowA t sz (.slice (some ⟨b, o, none⟩) n cap) n (xs.set (i * sz + off) v) :: l) := by
  have h := Sts.rowP (P := P) (l := l) (t := t) (sz := sz) (n := n) (cap := cap) (b := b) (o := o) (off := i * sz + off) (xs := xs) (pre := xs.take (i * sz + off)) (old := [xs[i * sz + off]]) (post := xs.drop (i * sz + off + 1)) (vs := [v])
    (by simp) (by simp; omega) rfl (oneCells1 hone)
  rw [show xs.take (i * sz + off) ++ ([v] ++ xs.drop (i * sz + off + 1)) = xs.set (i * sz + off) v by rw [List.set_eq_take_append_cons_drop, if_pos hi]; simp, ← Nat.add_assoc] at h
  exact h
theorem Rdo.sl_nil_l {P : Program} {e : Env} {C : List HP} {t ty e' s : Nat} {x lo : Operand} {k : IntKind} {li : Int} [ht : EL P t e'] [hs : SZ P e' s] (hx : evl e x = some (.slice none 0 0)) (hl : evl e lo = some (.int k li)) (h0 : li = 0) :
    Rdo P e C (.slice t x (some lo) none none) ty (.slice none 0 0) := by
  subst h0
  unfold Rdo
  intro G w a n' dst pos after g hG he
  have hsz := hs.run (w := w)
  rw [← (EL.eq ht).2] at hsz
  simp only [execOp, he.eval hx, he.eval hl, Option.map_some, Option.map_none, run_sliceAt_slice w t _ _ _ _ (EL.eq ht).1, Sem.run_bind]
  rw [run_slice_l w t _ 0 0 (EL.eq ht).1 k _ (by omega) (by omega)]
  simp [hsz, sliced]
theorem Rdo.quoE {P : Program} {e : Env} {C : List HP} {ty : TypeId} {x y : Operand} {xt yt : TypeId} {k : IntKind} {p q r : Int} (hx : evl e x = some (.int k p)) (hy : evl e y = some (.int k q)) (hq : q ≠ 0) (hr : k.wrap (p.tdiv q) = r) : Rdo P e C (.binOp .quo xt x y yt) ty (.int k r) := hr ▸ Rdo.quo hx hy hq
theorem Rdo.remE {P : Program} {e : Env} {C : List HP} {ty : TypeId} {x y : Operand} {xt yt : TypeId} {k : IntKind} {p q r : Int} (hx : evl e x = some (.int k p)) (hy : evl e y = some (.int k q)) (hq : q ≠ 0) (hr : p.tmod q = r) : Rdo P e C (.binOp .rem xt x y yt) ty (.int k r) := hr ▸ Rdo.rem hx hy hq
/-- Nothing of a slice. -/
theorem Rdo.sl_h0 {P : Program} {e : Env} {C : List HP} {t ty e' s n cap : Nat} {a : Option Addr} {x hi : Operand} {k' : IntKind} {h_ : Int} [ht : EL P t e'] [hs : SZ P e' s] (hx : evl e x = some (.slice a n cap)) (hh : evl e hi = some (.int k' h_)) (h0 : h_ = 0) :
    Rdo P e C (.slice t x none (some hi) none) ty (.slice (if cap = 0 then a else a.map (·.add (0 * s))) 0 cap) := by
  subst h0
  unfold Rdo
  intro G w A n' dst pos after g hG he
  have hsz := hs.run (w := w)
  rw [← (EL.eq ht).2] at hsz
  simp only [execOp, he.eval hx, he.eval hh, Option.map_some, Option.map_none, run_sliceAt_slice w t _ _ _ _ (EL.eq ht).1, Sem.run_bind]
  rw [run_slice_h w t _ n cap (EL.eq ht).1 k' _ (by omega) (by omega)]
  simp [hsz, sliced]
theorem lput_pre (pre : List Value) (vs : List Value) : ∀ (cs : List Value) (o : Nat), lput (pre ++ cs) (pre.length + o) vs = pre ++ lput cs o vs := by
  induction pre with
  | nil => intro cs o; simp
  | cons a pre ih =>
    intro cs o
    rw [List.cons_append, List.length_cons, show pre.length + 1 + o = (pre.length + o) + 1 by omega]
    cases vs with
    | nil => rw [lput_nil, lput_nil]; rfl
    | cons v vs =>
      have := ih cs o
      simp only [lput, List.cons_append]
      rw [this]
theorem LPutQ.mk {cs vs cs' : List Value} : ∀ {o : Nat}, o + vs.length ≤ cs.length → lput cs o vs = cs' → LPut cs o vs cs' := by
  intro o
  induction o generalizing cs cs' with
  | zero =>
    induction vs generalizing cs cs' with
    | nil => intro _ h; rw [lput_nil] at h; subst h; exact LPut.nil _
    | cons v vs ih =>
      intro h1 h2
      cases cs with
      | nil => simp at h1
      | cons c cs =>
        simp only [lput] at h2
        subst h2
        exact LPut.here (ih (by simp at h1 ⊢; omega) rfl)
  | succ o ih =>
    intro h1 h2
    cases cs with
    | nil => simp at h1
    | cons c cs =>
      cases vs with
      | nil =>
        rw [lput_nil] at h2
        subst h2
        exact LPut.next (ih (by simp at h1 ⊢; omega) (lput_nil _ _))
      | cons v vs =>
        simp only [lput] at h2
        subst h2
        exact LPut.next (ih (by simp at h1 ⊢; omega) rfl)
theorem LPut.seg {old post vs : List Value} (h : old.length = vs.length) : LPut (old ++ post) 0 vs (vs ++ post) := by
  refine LPutQ.mk (by simp; omega) ?_
  rw [lput_eq _ _ _ (by simp; omega)]
  simp [← h]
theorem LPut.segEnd {old vs : List Value} (h : old.length = vs.length) : LPut old 0 vs vs := by
  have := LPut.seg (post := []) h
  simpa using this
theorem LPut.nextL {c : Value} {X vs X' : List Value} {o : Nat} (h : LPut X o vs X') : LPut ([c] ++ X) (o + 1) vs (c :: X') := LPut.next h
theorem LPut.hereL {c v : Value} {X vs X' : List Value} (h : LPut X 0 vs X') : LPut ([c] ++ X) 0 (v :: vs) (v :: X') := LPut.here h
theorem LPut.over32 {pre post vs post' : List Value} {o : Nat} (h : pre.length = 32) (hp : LPut post o vs post') : LPut (pre ++ post) (o + 32) vs (pre ++ post') := by
  obtain ⟨h1, h2⟩ := hp.spec
  refine LPutQ.mk (by simp; omega) ?_
  rw [← h2, show o + 32 = pre.length + o by omega, lput_pre]
end Go.Proofs.YtomijhgicennbaaGreat
namespace Go.Proofs.YtomijhgicennbaaGreat
open Go
set_option maxHeartbeats 4000000
set_option linter.unusedSimpArgs false
set_option linter.unusedVariables false
/-- Does j hang on i, through so many others? -/
def hangs (ops : Array Oper) : Nat → Nat → Nat → Bool
  | 0, _, _ => false
  | f + 1, j, i => match ops[j]? with
    | some oj => oj.after.any fun e => Region.binds .any e && (e.on == i || hangs ops f e.on i)
    | none => false
/-- What is done has all done that it hangs on. -/
def closedL (ops : Array Oper) (listed : Array Bool) : Bool :=
  (List.range ops.size).all fun k => !listed.getD k false || match ops[k]? with
    | some ok => ok.after.all fun e => !Region.binds .any e || listed.getD e.on false
    | none => true
def phaseOkT (ops : Array Oper) (fin listed : Array Bool) : Bool :=
  closedL ops listed && (List.range ops.size).all fun j => fin.getD j false || listed.getD j true || (List.range ops.size).all fun i => !fin.getD i false || listed.getD i true || hangs ops ops.size j i
theorem closedL_at {ops : Array Oper} {listed : Array Bool} (h : closedL ops listed = true) {k : Nat} (hk : listed.getD k false = true) {ok : Oper} (ho : ops[k]? = some ok) : ∀ e ∈ ok.after, Region.binds .any e = true → listed.getD e.on false = true := by
  intro e he hb
  have hlt : k < ops.size := (Array.getElem?_eq_some_iff.1 ho).1
  have h1 := List.all_eq_true.1 h k (List.mem_range.2 hlt)
  rw [hk, ho] at h1
  simp only [Bool.not_true, Bool.false_or] at h1
  have h2 := Array.all_eq_true'.1 h1 e he
  rw [hb] at h2
  simpa using h2
theorem hangs_done {ops : Array Oper} {listed : Array Bool} (hc : closedL ops listed = true) {i : Nat} : ∀ (f j : Nat), hangs ops f j i = true → (∀ oj, ops[j]? = some oj → ∀ e ∈ oj.after, Region.binds .any e = true → listed.getD e.on false = true) → listed.getD i false = true := by
  intro f
  induction f with
  | zero => intro j h; cases h
  | succ f ih =>
    intro j h hd
    unfold hangs at h
    cases ho : ops[j]? with
    | none => rw [ho] at h; cases h
    | some oj =>
      rw [ho] at h
      obtain ⟨e, he, hb⟩ := Array.any_eq_true'.1 h
      simp only [Bool.and_eq_true, Bool.or_eq_true, beq_iff_eq] at hb
      have hl := hd oj ho e he hb.1
      rcases hb.2 with h1 | h1
      · exact h1 ▸ hl
      · exact ih e.on h1 fun ok hok e' he' hb' => closedL_at hc hl hok e' he' hb'
theorem set_up {listed : Array Bool} (i j : Nat) (d : Bool) (h : listed.getD j d = true) : (listed.setIfInBounds i true).getD j d = true := by
  by_cases hij : i = j
  · subst hij
    rcases Nat.lt_or_ge i listed.size with h' | h'
    · simp [h']
    · simp [Array.getElem?_eq_none h'] at h ⊢
      exact .inr h
  · rw [getD_set_ne d hij]; exact h
theorem phaseOkT_mono {ops : Array Oper} {fin listed : Array Bool} (i : Nat) (hi : i ∈ Region.ready .any ops listed) (h : phaseOkT ops fin listed = true) : phaseOkT ops fin (listed.setIfInBounds i true) = true := by
  unfold phaseOkT at h ⊢
  simp only [Bool.and_eq_true] at h ⊢
  obtain ⟨hc, h⟩ := h
  refine ⟨List.all_eq_true.2 fun k hk => ?_, List.all_eq_true.2 fun j hj => ?_⟩
  · cases ho : ops[k]? with
    | none => simp
    | some ok =>
      cases hl : (listed.setIfInBounds i true).getD k false with
      | false => rfl
      | true =>
        simp only [Bool.not_true, Bool.false_or]
        refine Array.all_eq_true'.2 fun e he => ?_
        cases hb : Region.binds .any e with
        | false => rfl
        | true =>
          simp only [Bool.not_true, Bool.false_or]
          refine set_up i e.on false ?_
          by_cases hik : i = k
          · subst hik
            obtain ⟨_, oi, hoi, hd⟩ := mem_ready.1 hi
            rw [ho] at hoi
            cases hoi
            exact hd e he hb
          · rw [getD_set_ne false hik] at hl
            exact closedL_at hc hl ho e he hb
  · have h1 := List.all_eq_true.1 h j hj
    simp only [Bool.or_eq_true] at h1 ⊢
    rcases h1 with (h1 | h1) | h1
    · exact .inl (.inl h1)
    · exact .inl (.inr (set_up i j true h1))
    · right
      refine List.all_eq_true.2 fun q hq => ?_
      have h2 := List.all_eq_true.1 h1 q hq
      simp only [Bool.or_eq_true] at h2 ⊢
      rcases h2 with (h2 | h2) | h2
      · exact .inl (.inl h2)
      · exact .inl (.inr (set_up i q true h2))
      · exact .inr h2
theorem wpAny_phaseT {P : Program} {ops : Array Oper} {J : World → Prop} {Q : Exit → Act → World → Prop} {fin : Array Bool} {m : Nat} :
    ∀ (k : Nat) (listed : Array Bool) (a : Act) (w : World), phaseOkT ops fin listed = true → wpAnyJ P ops fin J Q (wpAnyIn Fence.wide 0 P .any ops Q m) k listed a w → wpAnyIn Fence.wide 0 P .any ops Q (k + m) listed a w := by
  have split : ∀ listed : Array Bool, phaseOkT ops fin listed = true → readyIn ops fin listed = [] ∨ Region.ready .any ops listed = readyIn ops fin listed := by
    intro listed hph
    by_cases hall : ∀ j ∈ Region.ready .any ops listed, fin.getD j false = true
    · exact .inr (List.filter_eq_self.2 hall).symm
    · left
      obtain ⟨j, hj⟩ := Classical.not_forall.1 hall
      obtain ⟨hj, hjf⟩ := Classical.not_imp.1 hj
      have hjf' : fin.getD j false = false := by simpa using hjf
      obtain ⟨hjun, oj, hoj, hdep⟩ := mem_ready.1 hj
      refine List.filter_eq_nil_iff.2 fun i hi hfi => ?_
      obtain ⟨hiun, oi, hoi, _⟩ := mem_ready.1 hi
      have hjlt : j < ops.size := (Array.getElem?_eq_some_iff.1 hoj).1
      have hilt : i < ops.size := (Array.getElem?_eq_some_iff.1 hoi).1
      unfold phaseOkT at hph
      simp only [Bool.and_eq_true] at hph
      have h1 := List.all_eq_true.1 hph.2 j (List.mem_range.2 hjlt)
      rw [hjf', Bool.false_or, hjun, Bool.false_or] at h1
      have h2 := List.all_eq_true.1 h1 i (List.mem_range.2 hilt)
      rw [hfi, Bool.not_true, Bool.false_or, hiun, Bool.false_or] at h2
      have h3 := hangs_done hph.1 _ _ h2 fun ok hok e he hb => by rw [hoj] at hok; cases hok; exact hdep e he hb
      have : listed.getD i true = true := by
        rcases Nat.lt_or_ge i listed.size with h' | h'
        · simp [h'] at h3 ⊢
          exact h3
        · simp [Array.getElem?_eq_none h']
      rw [this] at hiun
      cases hiun
  intro k
  induction k with
  | zero =>
    intro listed a w hph h
    rw [Nat.zero_add]
    exact h.2.2
  | succ k ih =>
    intro listed a w hph h
    rcases split listed hph with h0 | h0
    · exact wpAny_fuel_le (h.2.1 h0) (k + 1)
    · by_cases hn : readyIn ops fin listed = []
      · exact wpAny_fuel_le (h.2.1 hn) (k + 1)
      · rw [Nat.add_right_comm]
        refine ⟨fun hr => absurd (h0 ▸ hr) hn, fun i hi => ?_⟩
        have hi0 := hi
        rw [h0] at hi
        exact wpOpIn_mono (fun a' w' h' => ih _ a' w' (phaseOkT_mono i hi0 hph) h') (h.2.2 i hi)
/-- A phase begins, in the middle of a region. -/
theorem WpR.phaseT {P : Program} {n : Nat} {ops : Array Oper} {Q : Exit → Env → List HP → Prop} {e : Env} {l : List HP} {m : Nat} {listed : Array Bool} (fin : Array Bool) (k : Nat) (C : List HP) {l' : List HP} (hph : phaseOkT ops fin listed = true) (ht : Tk l C l')
    (h : WpA P n ops Q fin (fun listed e l => WpR P n ops Q m listed e (C ++ l)) k listed C e l') : WpR P n ops Q (k + m) listed e l := by
  unfold WpR
  unfold WpA at h
  unfold Tk at ht
  intro F w a ds hl he
  obtain ⟨rC, G, hC, hj, hl'⟩ := (ht F w hl).to_parts
  refine wpAny_phaseT (J := fun w => Sat w G) k listed a w hph (wpAnyJ_K (fun _ _ _ h => h) ?_ _ _ _ _ (h rC F G w w a ds hC hj hl' (Ext.refl w) he))
  rintro li a' w' ⟨e', l'', he', hl'', hx, hK⟩
  unfold WpR at hK
  exact wpAny_Q (fun x a w hq => SPost.mono hx (fun _ _ _ h => h) hq) _ _ _ _ (hK F w' a' ds (Holds.of_parts hC hj hl'') he')
end Go.Proofs.YtomijhgicennbaaGreat
namespace Go.Proofs.YtomijhgicennbaaGreat
open Go
set_option maxHeartbeats 4000000
set_option linter.unusedSimpArgs false
set_option linter.unusedVariables false
set_option maxRecDepth 20000
section
variable {P : Program} {e : Env} {C : List HP} {ty : TypeId}
theorem Rdo.shr {x y : Operand} {xt yt : TypeId} {k yk : IntKind} {p s : Int} (hx : evl e x = some (.int k p)) (hy : evl e y = some (.int yk s)) (hs : 0 ≤ s) : Rdo P e C (.binOp .shr xt x y yt) ty (.int k (p / 2 ^ Min.min s.toNat k.bits)) := by
  unfold Rdo
  intro G w a n dst pos after g hl he
  simp [execOp, he.eval hx, he.eval hy, eqGuard_shr, binOp, shift_shr_any _ _ _ _ hs]
theorem Rdo.shrE {x y : Operand} {xt yt : TypeId} {k yk : IntKind} {p s r : Int} (hx : evl e x = some (.int k p)) (hy : evl e y = some (.int yk s)) (hs : 0 ≤ s) (hr : p / 2 ^ Min.min s.toNat k.bits = r) : Rdo P e C (.binOp .shr xt x y yt) ty (.int k r) := hr ▸ Rdo.shr hx hy hs
theorem Rdo.shl {x y : Operand} {xt yt : TypeId} {k yk : IntKind} {p s : Int} (hx : evl e x = some (.int k p)) (hy : evl e y = some (.int yk s)) (hs : 0 ≤ s) : Rdo P e C (.binOp .shl xt x y yt) ty (.int k (k.wrap (p * 2 ^ Min.min s.toNat k.bits))) := by
  unfold Rdo
  intro G w a n dst pos after g hl he
  simp [execOp, he.eval hx, he.eval hy, eqGuard_shl, binOp, shift_shl_any _ _ _ _ hs]
end
/-- A number's bytes. -/
def numB (n : Nat) : List UInt8 := if n < 128 then [UInt8.ofNat n] else UInt8.ofNat (n % 128 + 128) :: numB (n / 128)
theorem numB_lt {n : Nat} (h : n < 128) : numB n = [UInt8.ofNat n] := by rw [numB, if_pos h]
theorem numB_ge {n : Nat} (h : ¬ n < 128) : numB n = UInt8.ofNat (n % 128 + 128) :: numB (n / 128) := by rw [numB, if_neg h]
theorem numB_len (k n : Nat) (h : n < 128 ^ (k + 1)) : (numB n).length ≤ k + 1 := by
  induction k generalizing n with
  | zero => rw [numB_lt (by simpa using h)]; simp
  | succ k ih =>
    by_cases h2 : n < 128
    · rw [numB_lt h2]; simp
    · rw [numB_ge h2]
      have := ih (n / 128) (by rw [Nat.div_lt_iff_lt_mul (by omega)]; rw [Nat.pow_succ] at h; omega)
      simp; omega
theorem numB_pos (n : Nat) : 1 ≤ (numB n).length := by
  by_cases h : n < 128
  · rw [numB_lt h]; simp
  · rw [numB_ge h]; simp
/-- The number that is laid for a number. -/
def clampN (n : Int) : Nat := if n < 0 then 0 else if 4611686018427387904 < n then 4611686018427387904 else n.toNat
def numsB (ns : List Int) : List UInt8 := (ns.map fun n => numB (clampN n)).flatten
theorem clampN_lt (n : Int) : clampN n < 128 ^ 9 := by unfold clampN; split <;> (try split) <;> omega
theorem numB_clamp_len (n : Int) : (numB (clampN n)).length ≤ 9 := numB_len 8 _ (clampN_lt n)
theorem numsB_len (ns : List Int) : (numsB ns).length ≤ 9 * ns.length := by
  induction ns with
  | nil => simp [numsB]
  | cons n ns ih =>
    have := numB_clamp_len n
    simp only [numsB, List.map_cons, List.flatten_cons, List.length_append, List.length_cons] at ih ⊢
    omega
theorem or128 (m : Nat) (h : m < 256) : bits .or .u8 (m : Int) 128 = ((m % 128 + 128 : Nat) : Int) := by
  have : ((List.range 256).all fun m => bits .or .u8 (m : Int) 128 == ((m % 128 + 128 : Nat) : Int)) = true := by kernel_rfl
  have h2 := List.all_eq_true.1 this m (List.mem_range.2 h)
  simpa using h2
theorem wrap8 (n : Nat) : IntKind.u8.wrap (n : Int) = ((n % 256 : Nat) : Int) := by
  simp [IntKind.wrap, IntKind.bits, IntKind.signed]
theorem lay_hi (n : Nat) : bits .or .u8 (IntKind.u8.wrap (n : Int)) 128 = ((UInt8.ofNat (n % 128 + 128)).toNat : Int) := by
  rw [wrap8, or128 _ (by omega)]
  have : (UInt8.ofNat (n % 128 + 128)).toNat = n % 128 + 128 := by
    rw [UInt8.toNat_ofNat']
    omega
  rw [this]
  omega
theorem lay_lo (n : Nat) (h : n < 128) : IntKind.u8.wrap (n : Int) = ((UInt8.ofNat n).toNat : Int) := by
  rw [wrap8]
  have : (UInt8.ofNat n).toNat = n := by
    rw [UInt8.toNat_ofNat']
    omega
  rw [this]
  omega
theorem shr7 (n : Nat) : (n : Int) / 2 ^ min (7 : Int).toNat IntKind.u64.bits = ((n / 128 : Nat) : Int) := by
  have : min (7 : Int).toNat IntKind.u64.bits = 7 := by rfl
  rw [this]
  omega
/-- A Writer that has laid bytes. -/
def wrA (w : Nat) (bs : List UInt8) : HP := exH fun x : Option Addr × Nat => starH [cel w 177 [.slice x.1 bs.length x.2], rowA 5 1 (.slice x.1 bs.length x.2) bs.length (bytesC bs)]
theorem wrA_open {w : Nat} {bs : List UInt8} {l : List HP} : GhE (wrA w bs :: l) (fun _ : Option Addr × Nat => True) (fun x => cel w 177 [.slice x.1 bs.length x.2] :: rowA 5 1 (.slice x.1 bs.length x.2) bs.length (bytesC bs) :: l) := by
  unfold wrA
  exact GhE.open_ Pk.here
theorem wrA_shut {w : Nat} {bs : List UInt8} {a : Option Addr} {c : Nat} {l : List HP} : Gh (cel w 177 [.slice a bs.length c] :: rowA 5 1 (.slice a bs.length c) bs.length (bytesC bs) :: l) (wrA w bs :: l) := by
  unfold wrA
  exact Gh.shut (f := fun x : Option Addr × Nat => [cel w 177 [.slice x.1 bs.length x.2], rowA 5 1 (.slice x.1 bs.length x.2) bs.length (bytesC bs)]) (a, c) (Tk.cons Pk.here (Tk.cons Pk.here (Tk.mk fun F w h => h)))
theorem clamp_wrap (x : Int) : IntKind.u64.wrap (if (if 4611686018427387904 < x then 4611686018427387904 else x) > 0 then if 4611686018427387904 < x then 4611686018427387904 else x else 0) = (clampN x : Int) := by
  have hw : ∀ y : Int, 0 ≤ y → y < 18446744073709551616 → IntKind.u64.wrap y = y := by
    intro y h1 h2
    simp [IntKind.wrap, IntKind.bits, IntKind.signed]
    omega
  unfold clampN
  by_cases h1 : x < 0
  · rw [if_neg (show ¬ 4611686018427387904 < x by omega), if_neg (show ¬ x > 0 by omega), if_pos h1, hw _ (by omega) (by omega)]; rfl
  · rw [if_neg h1]
    by_cases h2 : 4611686018427387904 < x
    · rw [if_pos h2, if_pos h2, if_pos (by omega), hw _ (by omega) (by omega)]; rfl
    · rw [if_neg h2, if_neg h2]
      by_cases h3 : x > 0
      · rw [if_pos h3, hw _ (by omega) (by omega)]; omega
      · rw [if_neg h3, hw _ (by omega) (by omega)]; omega
abbrev octL (w nb : Nat) (a : Option Addr) (c : Nat) (bs : List UInt8) (ns : List Int) : List HP := [cel w 177 [.slice a bs.length c], rowA 5 1 (.slice a bs.length c) bs.length (bytesC bs), cel nb 3 (ns.map vi)]
abbrev octE (w nb i : Nat) (ns : List Int) : Env := [(0, vp w 0), (9, .slice (some ⟨nb, 0, none⟩) ns.length ns.length), (10, vi ns.length), (11, vi i)]
theorem bytesC_snoc (bs : List UInt8) (b : UInt8) : bytesC (bs ++ [b]) = bytesC bs ++ [.int .u8 b.toNat] := by simp [bytesC, u8c]
theorem nums_ok (w nb : Nat) (bs : List UInt8) (ns : List Int) (hl : bs.length + 9 * ns.length ≤ 1099511627776) :
    Trip Tryz.prog 123 [vp w 0, .slice (some ⟨nb, 0, none⟩) ns.length ns.length] [wrA w bs, cel nb 3 (ns.map vi)]
      (fun r l => r = .tuple #[] ∧ l = [wrA w (bs ++ numsB ns)]) := by
  refine Trip.ghE wrA_open ?_
  rintro ⟨a0, c0⟩ _
  refine Trip.of_body Tryz.func123 rfl Tryz.ntmps123 Tryz.results123 rfl ?_
  refine Wp.seq (Wsr (Ls (Rdo.move rfl) (Ls (Rdo.eqnil rfl rfl) (Lnt ?_))))
  refine Wp.condF rfl ?_
  refine Wp.skip (Thn.n (Wsr (Ls (Rdo.move rfl) (Ls (Rdo.lenSlice rfl) (Ls (Rdo.move rfl) (Lnt (Wp.block ?_)))))))
  refine Wp.loopE (fun k e h => ∃ (i : Nat) (a : Option Addr) (c : Nat), i + k = ns.length ∧ e = octE w nb i ns ∧ h = octL w nb a c (bs ++ numsB (ns.take i)) ns) ns.length
    (e0 := octE w nb 0 ns) (l0 := octL w nb a0 c0 (bs ++ numsB (ns.take 0)) ns) (by repeat (first | exact trivial | refine ⟨rfl, ?_⟩)) (by repeat (first | exact trivial | refine ⟨rfl, ?_⟩)) ?_ ⟨0, a0, c0, by omega, rfl, rfl⟩ ?_
  · simp only [List.take_zero, numsB, List.map_nil, List.flatten_nil, List.append_nil]
    exact Gh.rfl_
  rintro k e h ⟨i, a, c, hik, rfl, rfl⟩
  by_cases hi : i < ns.length
  · have h1 : ns[i]? = some ns[i] := List.getElem?_eq_getElem hi
    have h2 : (ns.map vi)[0 + i * 1]? = some (vi ns[i]) := by rw [show 0 + i * 1 = i by omega, List.getElem?_map, h1]; rfl
    refine Wsr (Ls (Rdo.lti rfl rfl) (Lnt (Wp.seq (cK rfl (Wp.skip (Thn.n (Wp.seq (Wp.block (Wsr ?_)))))))))
    refine Ls (Rdo.indexSlice rfl rfl (by omega)) ?_
    refine Ls (Rdo.load rfl (Lds.next (Lds.next (Lds.one (by assumption))))) ?_
    refine Ls (Rdo.assign rfl) (Lnt (Wsr (Ls (Rdo.move rfl) (Ls (Rdo.min rfl rfl) (Ls (Rdo.max rfl rfl) (Ls (Rdo.convInt rfl) (Ls (Rdo.assign rfl) (Lnt (Wp.seq (Wp.block ?_))))))))))
    generalize hx : ns[i] = x at *
    have hB : (bs ++ numsB (ns.take i)).length ≤ bs.length + 9 * i := by
      have := numsB_len (ns.take i)
      rw [List.length_take, Nat.min_eq_left (by omega)] at this
      simp; omega
    have hnext : bs ++ numsB (ns.take (i + 1)) = (bs ++ numsB (ns.take i)) ++ numB (clampN x) := by
      simp [numsB, List.take_add_one, h1]
    generalize hBB : bs ++ numsB (ns.take i) = B at *
    have hc9 := numB_clamp_len x
    have hcl := clampN_lt x
    refine Wp.loopE (fun k e h => ∃ (pre : List UInt8) (a : Option Addr) (c : Nat), pre ++ numB k = numB (clampN x) ∧ k ≤ clampN x ∧ e = [(0, vp w 0), (6, .int .u64 k), (9, .slice (some ⟨nb, 0, none⟩) ns.length ns.length), (10, vi ns.length), (11, vi i)] ∧ h = octL w nb a c (B ++ pre) ns) (clampN x)
      (e0 := [(0, vp w 0), (6, .int .u64 (clampN x)), (9, .slice (some ⟨nb, 0, none⟩) ns.length ns.length), (10, vi ns.length), (11, vi i)]) (l0 := octL w nb a c (B ++ []) ns) (by rw [clamp_wrap]; exact (by repeat (first | exact trivial | refine ⟨rfl, ?_⟩))) (by repeat (first | exact trivial | refine ⟨rfl, ?_⟩)) ?_ ⟨[], a, c, rfl, Nat.le_refl _, rfl, rfl⟩ ?_
    · rw [List.append_nil]; exact Gh.rfl_
    rintro m e h ⟨pre, a, c, hpre, hle, rfl, rfl⟩
    have hnp := numB_pos m
    have hp9 : pre.length + (numB m).length ≤ 9 := by rw [← List.length_append, hpre]; exact hc9
    have hBl : (B ++ pre).length ≤ 1099511627776 - 1 := by rw [List.length_append]; omega
    by_cases hm : 128 ≤ m
    · have hsh := shr7 m
      have hm' : (128 : Int) ≤ m := by omega
      have hlay := lay_hi m
      refine Wp.seq (Wsr (Ls (Rdo.move rfl) (Ls (Rdo.gei rfl rfl) (Lnt (cK rfl (Wp.skip (Thn.n (Wp.seq (Wp.block (Wp.region (Ls (Rdo.move rfl) (Ls (Rdo.move rfl) (Ls (Rdo.nilCheck rfl) ?_)))))))))))))
      refine Ls (Rdo.fieldAddr0 rfl) (Ls (Rdo.load rfl (Lds.one rfl)) (Ls (Rdo.move rfl) (Ls (Rdo.convInt rfl) (Ls (Rdo.or rfl rfl) ?_))))
      (refine WpL.step (Stp.sliceV rfl rfl (VCs.cons (VC.i _ _) (by first | rfl | assumption | (simp <;> done)) VCs.nil) (by simp only [List.cons_append, List.nil_append, List.append_nil]; exact rfl) rfl rfl ?_); intro nb21)
      (refine WpL.step (Stp.appendP rfl rfl (Pk.next (Pk.next Pk.here)) (Src.cel (by first | rfl | (simp <;> done) | (simp <;> omega))) (by first | rfl | assumption | (simp <;> done) | (simp <;> omega)) (by first | assumption | exact oneCells1 rfl | exact oneCells1 (by assumption) | exact oneCells_bytesC _ | exact oneCells_votesC _ | (simp [oneCells, Value.oneCell'] <;> done)) (by first | omega | (simp <;> omega)) (by first | omega | (simp <;> omega)) rfl (by first | rfl | (simp <;> done)) ?_); intro na22 nc22)
      refine Ls (Rdo.nilCheck rfl) (Ls (Rdo.fieldAddr0 rfl) ?_)
      refine WpL.step (Stp.storeV rfl rfl (VC.sl _ _ _) rfl (Sts.next (Sts.next (Sp (oneCells1 rfl)))) ?_)
      refine WpL.nil (Blk.n (Thn.n (Wp.region (Ls (Rdo.move rfl) ?_))))
      refine Ls (Rdo.shrE rfl rfl (by omega) (by assumption)) ?_
      refine Ls (Rdo.assign rfl) (Lnt ?_)
      rw [hlay, ← bytesC_snoc]
      have e1 : (B ++ pre).length + 1 = (B ++ (pre ++ [UInt8.ofNat (m % 128 + 128)])).length := by simp [Nat.add_assoc]
      rw [e1, List.append_assoc]
      exact ⟨m / 128, _, _, by omega, ⟨pre ++ [UInt8.ofNat (m % 128 + 128)], na22, nc22, by rw [← hpre, numB_ge (n := m) (by omega)]; simp, by omega, rfl, rfl⟩, (by repeat (first | exact trivial | refine ⟨rfl, ?_⟩)), Gk⟩
    · have hm' : ¬ (128 : Int) ≤ m := by omega
      have hlay := lay_lo m (by omega)
      refine Wp.seq (Wsr (Ls (Rdo.move rfl) (Ls (Rdo.gei rfl rfl) (Lnt (cL rfl ?_)))))
      refine Wp.exit ?_
      refine Thn.x ?_
      refine Thn.x ?_
      refine Blk.here ?_
      refine Thn.n (Wp.region (Ls (Rdo.move rfl) (Ls (Rdo.move rfl) (Ls (Rdo.nilCheck rfl) (Ls (Rdo.fieldAddr0 rfl) (Ls (Rdo.load rfl (Lds.one rfl)) (Ls (Rdo.move rfl) (Ls (Rdo.convInt rfl) ?_))))))))
      (refine WpL.step (Stp.sliceV rfl rfl (VCs.cons (VC.i _ _) (by first | rfl | assumption | (simp <;> done)) VCs.nil) (by simp only [List.cons_append, List.nil_append, List.append_nil]; exact rfl) rfl rfl ?_); intro nb21)
      (refine WpL.step (Stp.appendP rfl rfl (Pk.next (Pk.next Pk.here)) (Src.cel (by first | rfl | (simp <;> done) | (simp <;> omega))) (by first | rfl | assumption | (simp <;> done) | (simp <;> omega)) (by first | assumption | exact oneCells1 rfl | exact oneCells1 (by assumption) | exact oneCells_bytesC _ | exact oneCells_votesC _ | (simp [oneCells, Value.oneCell'] <;> done)) (by first | omega | (simp <;> omega)) (by first | omega | (simp <;> omega)) rfl (by first | rfl | (simp <;> done)) ?_); intro na22 nc22)
      refine Ls (Rdo.nilCheck rfl) (Ls (Rdo.fieldAddr0 rfl) ?_)
      refine WpL.step (Stp.storeV rfl rfl (VC.sl _ _ _) rfl (Sts.next (Sts.next (Sp (oneCells1 rfl)))) ?_)
      refine WpL.nil (Blk.n (Thn.n (Wp.region ?_)))
      refine Ls (Rdo.succ rfl rfl (by omega)) ?_
      refine Ls (Rdo.move rfl) (Lnt ?_)
      rw [hlay, ← bytesC_snoc]
      have e1 : (B ++ pre).length + 1 = (B ++ (pre ++ [UInt8.ofNat m])).length := by simp [Nat.add_assoc]
      have e2 : pre ++ [UInt8.ofNat m] = numB (clampN x) := by rw [← hpre, numB_lt (n := m) (by omega)]
      rw [e1, List.append_assoc, e2, ← hnext]
      exact ⟨k - 1, _, _, by omega, ⟨i + 1, na22, nc22, by omega, rfl, rfl⟩, (by repeat (first | exact trivial | refine ⟨rfl, ?_⟩)), Gk⟩
  ·
    have hfull : ns.take i = ns := List.take_of_length_le (by omega)
    rw [hfull]
    have hsh := @wrA_shut w (bs ++ numsB ns) a c
    generalize bs ++ numsB ns = B at *
    refine Wsr (Ls (Rdo.lti rfl rfl) (Lnt (Wp.seq (cL rfl ?_))))
    refine Wp.exit ?_
    refine Thn.x ?_
    refine Thn.x ?_
    refine Blk.here ?_
    exact Ret.end_ ResV.nil (Gh.trans (Gh.drop (Pk.next (Pk.next Pk.here))) hsh) ⟨rfl, rfl⟩
end Go.Proofs.YtomijhgicennbaaGreat
namespace Go.Proofs.YtomijhgicennbaaGreat
open Go
set_option maxHeartbeats 4000000
set_option linter.unusedSimpArgs false
set_option linter.unusedVariables false
set_option maxRecDepth 20000
/-- Bytes are laid as they are. -/
theorem raw_ok (w : Nat) (bs : List UInt8) (v : Value) (xs : List UInt8) (hl : bs.length + xs.length ≤ 1099511627776) :
    Trip Tryz.prog 129 [vp w 0, v] [wrA w bs, fz (fun g => RdBytes g v xs)]
      (fun r l => r = .tuple #[] ∧ l = [wrA w (bs ++ xs), fz (fun g => RdBytes g v xs)]) := by
  refine Trip.ghE wrA_open ?_
  rintro ⟨a0, c0⟩ _
  simp only
  refine Trip.of_body Tryz.func129 rfl Tryz.ntmps129 Tryz.results129 rfl ?_
  refine Wsr (Ls (Rdo.move rfl) (Ls (Rdo.nenil rfl rfl) (Lnt ?_)))
  refine Wp.condT rfl ?_
  refine Wp.region (Ls (Rdo.move rfl) (Ls (Rdo.move rfl) (Ls (Rdo.nilCheck rfl) (Ls (Rdo.fieldAddr0 rfl) (Ls (Rdo.load rfl (Lds.one rfl)) (Ls (Rdo.move rfl) ?_))))))
  refine WpL.step (Stp.appendP rfl rfl (Pk.next Pk.here) (Src.next Src.frozen) (by simp [bytesC_length]) (oneCells_bytesC xs) (by omega) (by omega) rfl (by rfl) ?_)
  intro a' c'
  have e1 : bs.length + xs.length = (bs ++ xs).length := by simp
  have e2 : bytesC bs ++ bytesC xs = bytesC (bs ++ xs) := by simp [bytesC]
  rw [e1, e2]
  refine Ls (Rdo.nilCheck rfl) (Ls (Rdo.fieldAddr0 rfl) ?_)
  refine WpL.step (Stp.storeV rfl rfl (VC.sl _ _ _) rfl (Sts.next (Sp (oneCells1 rfl))) ?_)
  refine WpL.nil ?_
  exact Ret.end_ ResV.nil (Gh.trans Gk (wrA_shut (a := a') (c := c'))) ⟨rfl, rfl⟩
/-- What was laid. -/
theorem out_ok (w : Nat) (bs : List UInt8) (hl : bs.length ≤ 1099511627776) :
    Trip Tryz.prog 127 [vp w 0] [wrA w bs]
      (fun r l => ∃ a c, r = .slice a bs.length c ∧ l = [fz (fun g => RdBytes g (.slice a bs.length c) bs)]) := by
  refine Trip.ghE wrA_open ?_
  rintro ⟨a0, c0⟩ _
  simp only
  refine Trip.of_body Tryz.func127 rfl Tryz.ntmps127 Tryz.results127 rfl ?_
  refine Wsr (Ls (Rdo.assign rfl) (Lnt (Wp.seq (Wsr (Ls (Rdo.move rfl) (Ls (Rdo.eqnil rfl rfl) (Lnt ?_)))))))
  refine Wp.condF rfl ?_
  refine Wp.skip (Thn.n (Wsr (Ls (Rdo.move rfl) (Ls (Rdo.nilCheck rfl) (Ls (Rdo.fieldAddr0 rfl) (Ls (Rdo.load rfl (Lds.one rfl)) ?_))))))
  refine WpL.gh (Gh.ice (Pk.next Pk.here)) ?_
  have s1 := bytesClone_ok (.slice a0 bs.length c0) bs hl
  refine WpL.step (Sc (s1) rfl ?_)
  rintro _ _ ⟨v1_0, ⟨v1_1, ⟨rfl, rfl⟩⟩⟩
  refine Ll ?_
  refine Ls (Rdo.assign rfl) (Lnt (Wp.ret ?_))
  refine Rt (ResV.tmp rfl ResV.nil) ⟨_, ⟨_, ⟨rfl, rfl⟩⟩⟩
end Go.Proofs.YtomijhgicennbaaGreat
namespace Go.Proofs.YtomijhgicennbaaGreat
open Go
set_option maxHeartbeats 4000000
set_option linter.unusedSimpArgs false
set_option linter.unusedVariables false
set_option maxRecDepth 20000
def rowB (xs : List UInt8) : List UInt8 := numB xs.length ++ xs
theorem numsB_one (n : Nat) (h : n ≤ 4611686018427387904) : numsB [(n : Int)] = numB n := by
  have : clampN (n : Int) = n := by unfold clampN; rw [if_neg (by omega), if_neg (by omega)]; omega
  simp [numsB, this]
abbrev byE (w nb i : Nat) (a : Option Addr) : Env := [(0, vp w 0), (6, .slice (some ⟨nb, 0, none⟩) 1 1), (7, .int .i64 (1 : Nat)), (8, vi i)]
theorem bytes_ok (w nb : Nat) (bs : List UInt8) (v : Value) (xs : List UInt8) (hl : bs.length + xs.length ≤ 1000000000000) :
    Trip Tryz.prog 124 [vp w 0, .slice (some ⟨nb, 0, none⟩) 1 1] [wrA w bs, cel nb 22 [v], fz (fun g => RdBytes g v xs)]
      (fun r l => r = .tuple #[] ∧ l = [wrA w (bs ++ rowB xs), fz (fun g => RdBytes g v xs)]) := by
  refine Trip.get (Pk.next (Pk.next Pk.here)) shape_bytes ?_
  rintro ⟨a, c, rfl⟩
  have hx9 : (numB xs.length).length ≤ 9 := numB_len 8 _ (by omega)
  have s1 : ∀ nb', Trip Tryz.prog 123 [vp w 0, .slice (some ⟨nb', 0, none⟩) 1 1] [wrA w bs, cel nb' 3 [vi xs.length]] (fun r l => r = .tuple #[] ∧ l = [wrA w (bs ++ numB xs.length)]) := by
    intro nb'
    have h := nums_ok w nb' bs [(xs.length : Int)] (by simp; omega)
    rw [numsB_one _ (by omega)] at h
    exact h
  have s2 := raw_ok w (bs ++ numB xs.length) (.slice a xs.length c) xs (by simp; omega)
  rw [List.append_assoc] at s2
  change Trip _ _ _ _ (fun r l => r = .tuple #[] ∧ l = [wrA w (bs ++ rowB xs), fz (fun g => RdBytes g (.slice a xs.length c) xs)]) at s2
  refine Trip.of_body Tryz.func124 rfl Tryz.ntmps124 Tryz.results124 rfl ?_
  refine Wsr (Ls (Rdo.move rfl) (Ls (Rdo.lenSlice rfl) (Ls (Rdo.move rfl) (Lnt (Wp.block ?_)))))
  refine Wp.loopE (fun k e h => (k = 1 ∧ e = byE w nb 0 a ∧ h = [wrA w bs, cel nb 22 [.slice a xs.length c], fz (fun g => RdBytes g (.slice a xs.length c) xs)]) ∨ (k = 0 ∧ e = byE w nb 1 a ∧ h = [wrA w (bs ++ rowB xs), fz (fun g => RdBytes g (.slice a xs.length c) xs)])) 1
    (e0 := byE w nb 0 a) (l0 := [wrA w bs, cel nb 22 [.slice a xs.length c], fz (fun g => RdBytes g (.slice a xs.length c) xs)]) (by repeat (first | exact trivial | refine ⟨rfl, ?_⟩)) (by repeat (first | exact trivial | refine ⟨rfl, ?_⟩)) Gh.rfl_ (.inl ⟨rfl, rfl, rfl⟩) ?_
  rintro k e h (⟨rfl, rfl, rfl⟩ | ⟨rfl, rfl, rfl⟩)
  · refine Wsr (Ls (Rdo.lti rfl rfl) (Lnt (Wp.seq ?_)))
    refine Wp.condT rfl ?_
    refine Wp.skip (Thn.n (Wp.seq (Wp.block (Wsr ?_))))
    refine Ls (Rdo.indexSlice rfl rfl (by omega)) ?_
    refine Ls (Rdo.load rfl (Lds.next (Lds.one rfl))) (Ls (Rdo.assign rfl) (Lnt (Wsr (Ls (Rdo.move rfl) (Ls (Rdo.move rfl) (Ls (Rdo.lenSlice rfl) ?_))))))
    (refine WpL.step (Stp.sliceV rfl rfl (VCs.cons (VC.i _ _) (by first | rfl | assumption | (simp <;> done)) VCs.nil) (by simp only [List.cons_append, List.nil_append, List.append_nil]; exact rfl) rfl rfl ?_); intro nb23)
    refine WpL.step (Sc (s1 _) rfl ?_)
    rintro _ _ ⟨rfl, rfl⟩
    refine Ll ?_
    refine Lnt (Wp.region (Ls (Rdo.move rfl) (Ls (Rdo.move rfl) ?_)))
    refine WpL.step (Sc (s2) rfl ?_)
    rintro _ _ ⟨rfl, rfl⟩
    refine Ll ?_
    refine WpL.nil (Blk.n (Thn.n (Wp.region ?_)))
    refine Ls (Rdo.succ rfl rfl (by omega)) ?_
    refine Ls (Rdo.move rfl) (Lnt ?_)
    exact ⟨0, _, _, by omega, .inr ⟨rfl, rfl, rfl⟩, (by repeat (first | exact trivial | refine ⟨rfl, ?_⟩)), Gk⟩
  · refine Wsr (Ls (Rdo.lti rfl rfl) (Lnt (Wp.seq ?_)))
    refine Wp.condF rfl ?_
    refine Wp.exit ?_
    refine Thn.x ?_
    refine Thn.x ?_
    refine Blk.here ?_
    refine Ret.end_ ResV.nil Gk ⟨rfl, rfl⟩
end Go.Proofs.YtomijhgicennbaaGreat
namespace Go.Proofs.YtomijhgicennbaaGreat
open Go
set_option maxHeartbeats 4000000
set_option linter.unusedSimpArgs false
set_option linter.unusedVariables false
set_option maxRecDepth 20000
/-- A vote's bytes, a message's bytes under the seal. -/
def voteB (v : Vote) : List UInt8 := numsB [v.kind, v.slot, v.view] ++ v.sum.l ++ numsB [v.from_]
def voteAll (v : Vote) : List UInt8 := voteB v ++ v.tag.l
def voteBody (v : Vote) : List UInt8 := numsB [5, v.kind, v.slot, v.view] ++ v.sum.l ++ numsB [v.from_]
def votesB (vs : List Vote) : List UInt8 := numB vs.length ++ (vs.map voteAll).flatten
def msgBody (m : Msg) : List UInt8 := numsB [4, m.kind, m.from_, m.slot, m.view] ++ rowB m.value ++ votesB m.votes
def isVote (v : Vote) : Prop := (1 ≤ v.kind ∧ v.kind ≤ 3) ∧ (0 ≤ v.slot ∧ v.slot ≤ 63) ∧ (0 ≤ v.view ∧ v.view ≤ 8) ∧ (0 ≤ v.from_ ∧ v.from_ ≤ 9)
instance (v : Vote) : Decidable (isVote v) := by unfold isVote; infer_instance
def isMsg (m : Msg) : Prop := (1 ≤ m.kind ∧ m.kind ≤ 6) ∧ (0 ≤ m.from_ ∧ m.from_ ≤ 9) ∧ (0 ≤ m.to ∧ m.to ≤ 9) ∧ (0 ≤ m.slot ∧ m.slot ≤ 63) ∧ (0 ≤ m.view ∧ m.view ≤ 8) ∧ m.value.length ≤ 200 ∧ m.votes.length ≤ 10 ∧ ∀ v ∈ m.votes, isVote v
instance (m : Msg) : Decidable (isMsg m) := by unfold isMsg; infer_instance
end Go.Proofs.YtomijhgicennbaaGreat
namespace Go.Proofs.YtomijhgicennbaaGreat
open Go
set_option maxHeartbeats 4000000
set_option linter.unusedSimpArgs false
set_option linter.unusedVariables false
set_option maxRecDepth 20000
theorem Stp.make0 {P : Program} {n d : Nat} {x y : Operand} {k1 k2 : IntKind} {c : Nat} {t ty e' sz by_ : Nat} {zs : List Value} {pos : String} {after : Array Edge} {g : Option (Nat × Bool)} {e : Env} {l : List HP} {Φ : Env → List HP → Prop}
    [ht : EL P t e'] [hz : SZ P e' sz] [hby : BY P e' by_] [hzv : ZV P e' zs] (hx : evl e x = some (.int k1 0)) (hy : evl e y = some (.int k2 c)) (hb : by_ * c ≤ 281474976710656) (h63 : c ≤ 9223372036854775807) (hd : Nat.blt d n = true)
    (hk : ∀ b, Φ (eset e d (.slice (some ⟨b, 0, none⟩) 0 c)) (rowA e' sz (.slice (some ⟨b, 0, none⟩) 0 c) 0 [] :: l)) :
    Stp P n ⟨some d, .makeSlice t x y, ty, pos, after, g⟩ e l Φ := by
  unfold Stp
  intro F w a ds hl he K Q0 hK
  have h1 := hz.pf
  have h2 := hby.pf
  have h3 := hzv.pf
  cases hi : P.info? e' with
  | none => rw [hi] at h1; cases h1
  | some i =>
    rw [hi] at h1 h2 h3
    simp only [Option.map_some, Option.some.injEq] at h1 h2
    simp only [Option.bind_some] at h3
    cases hzz : i.zero with
    | none => rw [hzz] at h3; cases h3
    | some z =>
      have hr := run_make (P := P) w t e' i z ht.pf hi hzz k1 k2 0 (c : Int) (Int.le_refl _) (by omega) (by rw [h2]; omega) (by omega)
      simp only [Int.toNat_zero, Int.toNat_natCast, h1] at hr
      unfold OpW
      have e1 : (execOp a.eval ⟨some d, .makeSlice t x y, ty, pos, after, g⟩).run P w = .ok (.value (.slice (some ⟨w.heap.size, 0, none⟩) 0 c)) (w.alloc (.cells (madeCells z.cells (c * sz)) e')) := by
        simp [execOp, he.eval hx, he.eval hy, hr]
      rw [e1]
      have hcel : Holds (cel w.heap.size e' (madeCells z.cells (c * sz)).toList :: l) F (w.alloc (.cells (madeCells z.cells (c * sz)) e')) := by
        have := hl.alloc (.cells (madeCells z.cells (c * sz)) e')
        unfold cel
        simpa using this
      have hrow := (Gh.rowShut (l := cel w.heap.size e' (madeCells z.cells (c * sz)).toList :: l) (rest := l) (t := e') (sz := sz) (b := w.heap.size) (o := 0) (n := 0) (cap := c) (A := []) (xs := []) (B := (madeCells z.cells (c * sz)).toList) Pk.here (by simp) rfl (by omega) (by simp [size_madeCells])).use hcel
      exact hK _ _ _ _ (he.put _ hd) hrow (Ext.alloc w _) (hk _)
/-- append onto a row that is full, and stays. -/
theorem Stp.appendNew {P : Program} {n d : Nat} {x y : Operand} {t xt ty e' sz by_ : Nat} {zs : List Value} {pos : String} {after : Array Edge} {g : Option (Nat × Bool)} {e : Env} {C : List HP} {Φ : Env → List HP → Prop}
    {u : Value} {base : Option Addr} {k m cap : Nat} {xs news : List Value} [ht : EL P t e'] [hz : SZ P e' sz] [hby : BY P e' by_] [hzv : ZV P e' zs] [hni : NI P xt]
    (hx : evl e x = some (.slice base k cap)) (hy : evl e y = some u) (hsx : Src P C sz (.slice base k cap) k xs) (hs : Src P C sz u m news) (hxl : xs.length = k * sz) (hnl : news.length = m * sz) (hcap : cap < k + m) (hbytes : (k + m) * by_ ≤ 140737488355328) (h63 : k + m ≤ 9223372036854775807) (hd : Nat.blt d n = true) (hzl : zs.length = sz)
    (hk : ∀ a' c', Φ (eset e d (.slice a' (k + m) c')) (rowA e' sz (.slice a' (k + m) c') (k + m) (xs ++ news) :: C)) :
    Stp P n ⟨some d, .call { callee := .builtin .append, args := [x, y].toArray, argTypes := [t, xt].toArray }, ty, pos, after, g⟩ e C Φ := by
  unfold Stp
  unfold Src at hs hsx
  intro F w a ds hl he K Q0 hK
  obtain ⟨h1, h2⟩ := hs F w hl
  obtain ⟨_, h2'⟩ := hs F w.drew hl.drew
  obtain ⟨_, hold⟩ := hsx F w.drew hl.drew
  have hlen : (xs ++ news).length = (k + m) * sz := by rw [List.length_append, hxl, hnl, Nat.add_mul]
  have hr := run_append_new (ty := ty) ht hz hby hzv hni h1 h2' hold hcap hbytes h63
  unfold OpW
  have key : ∀ v' w', (Builtin.append_ #[t, xt] ty #[.slice base k cap, u]).run P w = .ok v' w' → (execOp a.eval ⟨some d, .call { callee := .builtin .append, args := [x, y].toArray, argTypes := [t, xt].toArray }, ty, pos, after, g⟩).run P w = .ok (.value v') w' := by
    intro v' w' hr
    simp [execOp, resolve, invoke, builtin, he.eval hx, he.eval hy, hr]
  rw [key _ _ hr]
  refine hK _ _ _ _ (he.put _ hd) ?_ ((Ext.drew w).trans (Ext.alloc _ _)) (hk _ _)
  have ha := Holds.alloc (.cells (xs.toArray ++ news.toArray ++ Builtin.zeroCells zs.toArray (grownCap w (k + m) cap e' - (k + m))) e') hl.drew
  refine ha.imp fun r hr => ?_
  unfold rowA
  unfold blk at hr
  refine ⟨hlen, .inr ⟨w.heap.size, 0, _, _, rfl, hr, grownCap_ge w (k + m) cap e', ?_, ?_⟩⟩
  · simp only [Array.size_append, List.size_toArray, size_zeroCells, hzl, hxl, hnl, Nat.zero_add, ← Nat.add_mul]
    have := grownCap_ge w (k + m) cap e'
    have h4 : k + m + (grownCap w (k + m) cap e' - (k + m)) = grownCap w (k + m) cap e' := by omega
    rw [h4]
    exact Nat.le_refl _
  · simp only [Array.toList_append, List.drop_zero, ← hlen]
    exact List.take_left' rfl
/-- A struct that is frozen behind its pointer. -/
theorem Gh.iceCel {l rest : List HP} {b : Nat} {t : TypeId} {cs : List Value} (hp : Pk l (Go.Proofs.YtomijhgicennbaaGreat.cel b t cs) rest) : Gh l (Go.Proofs.YtomijhgicennbaaGreat.icel b 0 cs :: rest) := by
  refine Gh.trans (Gh.row (n := 1) (sz := cs.length) hp (by omega)) (Gh.trans (Gh.ice Pk.here) ?_)
  have h : Gh (Go.Proofs.YtomijhgicennbaaGreat.fz (fun g => RdRow g cs.length (.slice (some ⟨b, 0, none⟩) 1 1) 1 cs) :: rest) (Go.Proofs.YtomijhgicennbaaGreat.fz (fun g => CellsAt g b 0 cs) :: rest) := by
    refine Gh.fzImp Pk.here fun g h => ?_
    obtain ⟨_, a, c, h2, h3⟩ := h
    simp only [Value.slice.injEq] at h2
    obtain ⟨rfl, _, _⟩ := h2
    rcases h3 with h3 | ⟨b', o', h4, h5, -⟩
    · cases h3
    · simp only [Option.some.injEq, Addr.mk.injEq, and_true] at h4
      obtain ⟨rfl, rfl⟩ := h4
      exact h5
  unfold Go.Proofs.YtomijhgicennbaaGreat.icel
  exact h
theorem Gh.icelImp {l rest : List HP} {b o : Nat} {cs : List Value} {Ψ : FH → Prop} (hp : Pk l (Go.Proofs.YtomijhgicennbaaGreat.icel b o cs) rest) (h : ∀ g, CellsAt g b o cs → Ψ g) : Gh l (Go.Proofs.YtomijhgicennbaaGreat.fz Ψ :: rest) := by
  unfold Go.Proofs.YtomijhgicennbaaGreat.icel at hp
  exact Gh.fzImp hp h
theorem Gh.toIcel {l rest : List HP} {b o : Nat} {cs : List Value} (hp : Pk l (Go.Proofs.YtomijhgicennbaaGreat.fz (fun g => CellsAt g b o cs)) rest) : Gh l (Go.Proofs.YtomijhgicennbaaGreat.icel b o cs :: rest) := by
  unfold Go.Proofs.YtomijhgicennbaaGreat.icel
  exact Gh.front hp
end Go.Proofs.YtomijhgicennbaaGreat
namespace Go.Proofs.YtomijhgicennbaaGreat
open Go
set_option maxHeartbeats 4000000
set_option linter.unusedSimpArgs false
set_option linter.unusedVariables false
set_option maxRecDepth 20000
section
variable {P : Program} {e : Env} {C : List HP} {ty : TypeId}
theorem Rdo.mulE {x y : Operand} {xt yt : TypeId} {p q r : Int} (hx : evl e x = some (.int .i64 p)) (hy : evl e y = some (.int .i64 q)) (h : p * q = r) (hr : -9223372036854775808 ≤ r ∧ r ≤ 9223372036854775807) : Rdo P e C (.binOp .mul xt x y yt) ty (.int .i64 r) := by
  subst h; exact Rdo.mul64 hx hy hr
theorem Rdo.compl {x : Operand} {xt : TypeId} {k : IntKind} {p : Int} (hx : evl e x = some (.int k p)) : Rdo P e C (.unOp .xor xt x) ty (.int k (bits .xor k (if k.signed then -1 else k.max) p)) := by
  unfold Rdo
  intro G w a n dst pos after g hl he
  simp [execOp, he.eval hx, unary_xor, intBits_xor]
end
/-- The cells of an array that is written out, one cell an element. -/
def bldA1 (e : Env) (n : Nat) : List (Nat × Operand) → List Value → Option (List Value)
  | [], cs => some cs
  | (f, x) :: r, cs => match evl e x with
    | some v => if v.oneCell' = true ∧ f < n then bldA1 e n r (cs.set f v) else none
    | none => none
theorem bldA1_fill {e : Env} {n m : Nat} {a : Act} (he : EnvAt m e a) : ∀ {ps : List (Nat × Operand)} {cs cs' : List Value}, cs.length = n → bldA1 e n ps cs = some cs' →
    Instr.fill (fun i => some (i * 1, 1)) cs.toArray (ps.map fun p => (p.1, a.eval p.2)) = some cs'.toArray
  | [], cs, cs', _, h => by
    simp only [bldA1, Option.some.injEq] at h
    subst h
    simp [Instr.fill]
  | (f, x) :: r, cs, cs', hl, h => by
    unfold bldA1 at h
    cases hx : evl e x with
    | none => rw [hx] at h; cases h
    | some v =>
      rw [hx] at h
      simp only at h
      by_cases hc : v.oneCell' = true ∧ f < n
      · rw [if_pos hc] at h
        have ih := bldA1_fill he (by simpa using hl) h
        have hcells : v.cells = #[v] := (VC.one hc.1).cells
        simp only [List.map_cons, Instr.fill, he.eval hx, hcells]
        rw [if_neg (by simp; omega)]
        simpa using ih
      · rw [if_neg hc] at h; cases h
theorem Rdo.bldArr1 {P : Program} {e : Env} {C : List HP} {t ty n e' : Nat} {ps : List (Nat × Operand)} {zs cs : List Value} [hz : ZV P t zs] [ha : AR P t n e'] [hs : SZ P e' 1] (hl : zs.length = n) (hb : bldA1 e n ps zs = some cs) : Rdo P e C (.build t ps.toArray) ty (.agg cs.toArray) := by
  unfold Rdo
  intro G w a m dst pos after g hl' he
  obtain ⟨x, hzr, hzc⟩ := hz.run (w := w)
  have h1 := bldA1_fill he hl hb
  simp only [Nat.mul_one] at h1
  simp [execOp, Instr.build, hzr, run_underlying ha.pf, hs.run, hzc, h1]
abbrev v32 (x : Int) : Value := .int .u32 x
def dTurn (x n : Int) : Int := bits .or .u32 (x / 2 ^ Min.min n.toNat IntKind.u32.bits) (IntKind.u32.wrap (x * 2 ^ Min.min (IntKind.u64.wrap (32 - n)).toNat IntKind.u32.bits))
def dShr (x n : Int) : Int := x / 2 ^ Min.min n.toNat IntKind.u32.bits
def dS0 (x : Int) : Int := bits .xor .u32 (bits .xor .u32 (dTurn x 7) (dTurn x 18)) (dShr x 3)
def dS1 (x : Int) : Int := bits .xor .u32 (bits .xor .u32 (dTurn x 17) (dTurn x 19)) (dShr x 10)
def dB0 (x : Int) : Int := bits .xor .u32 (bits .xor .u32 (dTurn x 2) (dTurn x 13)) (dTurn x 22)
def dB1 (x : Int) : Int := bits .xor .u32 (bits .xor .u32 (dTurn x 6) (dTurn x 11)) (dTurn x 25)
def dNot (x : Int) : Int := bits .xor .u32 (if IntKind.u32.signed then -1 else IntKind.u32.max) x
def dChoose (x y z : Int) : Int := bits .xor .u32 (bits .and .u32 x y) (bits .and .u32 (dNot x) z)
def dMost (x y z : Int) : Int := bits .xor .u32 (bits .xor .u32 (bits .and .u32 x y) (bits .and .u32 x z)) (bits .and .u32 y z)
theorem turn_ok (x n : Int) (hn : 0 ≤ n ∧ n ≤ 32) : Trip Tryz.prog 147 [v32 x, .int .u64 n] [] (fun r l => r = v32 (dTurn x n) ∧ l = []) := by
  have hw : 0 ≤ IntKind.u64.wrap (32 - n) := wrap_u64_nonneg _
  unfold dTurn
  refine Trip.of_body Tryz.func147 rfl Tryz.ntmps147 Tryz.results147 rfl ?_
  refine Wsr (Ls (Rdo.assign rfl) (Lnt (Wsr (Ls (Rdo.move rfl) (Ls (Rdo.move rfl) ?_)))))
  refine Ls (Rdo.shr rfl rfl (by omega)) ?_
  refine Ls (Rdo.move rfl) (Ls (Rdo.move rfl) (Ls (Rdo.sub rfl rfl) ?_))
  refine Ls (Rdo.shl rfl rfl (by omega)) ?_
  refine Ls (Rdo.or rfl rfl) (Ls (Rdo.assign rfl) (Lnt (Wp.ret ?_)))
  refine Rt (ResV.tmp rfl ResV.nil) ⟨rfl, rfl⟩
end Go.Proofs.YtomijhgicennbaaGreat
namespace Go.Proofs.YtomijhgicennbaaGreat
open Go
set_option maxHeartbeats 4000000
set_option linter.unusedSimpArgs false
set_option linter.unusedVariables false
set_option maxRecDepth 20000
def dK : List Int := [1116352408, 1899447441, 3049323471, 3921009573, 961987163, 1508970993, 2453635748, 2870763221, 3624381080, 310598401, 607225278, 1426881987, 1925078388, 2162078206, 2614888103, 3248222580, 3835390401, 4022224774, 264347078, 604807628, 770255983, 1249150122, 1555081692, 1996064986, 2554220882, 2821834349, 2952996808, 3210313671, 3336571891, 3584528711, 113926993, 338241895, 666307205, 773529912, 1294757372, 1396182291, 1695183700, 1986661051, 2177026350, 2456956037, 2730485921, 2820302411, 3259730800, 3345764771, 3516065817, 3600352804, 4094571909, 275423344, 430227734, 506948616, 659060556, 883997877, 958139571, 1322822218, 1537002063, 1747873779, 1955562222, 2024104815, 2227730452, 2361852424, 2428436474, 2756734187, 3204031479, 3329325298]
theorem numbers_ok : Trip Tryz.prog 75 [] [] (fun r l => r = .agg (dK.map v32).toArray ∧ l = []) := by
  refine Trip.of_body Tryz.func75 rfl Tryz.ntmps75 Tryz.results75 rfl ?_
  refine Wsr ?_
  (refine WpL.step (Stp.alloc rfl ?_); intro nb2)
  refine Lnt (Wsr (Ls (Rdo.bldArr1 rfl rfl) ?_))
  refine WpL.step (St rfl rfl (VC.ag _) ?_)
  refine Lnt (Wp.ret ?_)
  refine Rt (ResV.cell rfl (by repeat (first | exact Lds.one rfl | (apply Lds.all; (first | rfl | assumption | (simp <;> fail))) | exact Lds.ione0 | exact Lds.ione rfl | (apply Lds.iall; (first | rfl | assumption | (simp <;> fail))) | apply Lds.next)) ResV.nil) ⟨rfl, rfl⟩
/-- A word of a block. -/
def dWord (b0 b1 b2 b3 : Int) : Int :=
  bits .or .u32 (bits .or .u32 (bits .or .u32 (IntKind.u32.wrap (IntKind.u32.wrap b0 * 2 ^ Min.min (24 : Int).toNat IntKind.u32.bits)) (IntKind.u32.wrap (IntKind.u32.wrap b1 * 2 ^ Min.min (16 : Int).toNat IntKind.u32.bits))) (IntKind.u32.wrap (IntKind.u32.wrap b2 * 2 ^ Min.min (8 : Int).toNat IntKind.u32.bits))) (IntKind.u32.wrap b3)
def byteI (bs : List UInt8) (i : Nat) : Int := ((bs.getD i 0).toNat : Int)
def dSet1 (bs : List UInt8) (W : List Int) (i : Nat) : List Int := W.set i (dWord (byteI bs (4 * i)) (byteI bs (4 * i + 1)) (byteI bs (4 * i + 2)) (byteI bs (4 * i + 3)))
def dSet2 (W : List Int) (i : Nat) : List Int :=
  W.set i (IntKind.u32.wrap (IntKind.u32.wrap (IntKind.u32.wrap (W.getD (i - 16) 0 + dS0 (W.getD (i - 15) 0)) + W.getD (i - 7) 0) + dS1 (W.getD (i - 2) 0)))
/-- The words so far. -/
def dW1 (bs : List UInt8) : Nat → List Int
  | 0 => List.replicate 64 0
  | i + 1 => dSet1 bs (dW1 bs i) i
def dW2 (bs : List UInt8) : Nat → List Int
  | 0 => dW1 bs 16
  | i + 1 => dSet2 (dW2 bs i) (16 + i)
theorem dW1_len (bs : List UInt8) (i : Nat) : (dW1 bs i).length = 64 := by
  induction i with
  | zero => simp [dW1]
  | succ i ih => simp [dW1, dSet1, ih]
theorem dW2_len (bs : List UInt8) (i : Nat) : (dW2 bs i).length = 64 := by
  induction i with
  | zero => exact dW1_len bs 16
  | succ i ih => simp [dW2, dSet2, ih]
/-- Eight words. -/
structure V8 where
  a : Int
  b : Int
  c : Int
  d : Int
  e : Int
  f : Int
  g : Int
  h : Int
abbrev V8.l (v : V8) : List Int := [v.a, v.b, v.c, v.d, v.e, v.f, v.g, v.h]
abbrev V8.C (v : V8) : List Value := [v32 v.a, v32 v.b, v32 v.c, v32 v.d, v32 v.e, v32 v.f, v32 v.g, v32 v.h]
def dT (v : V8) (k w : Int) : Int := IntKind.u32.wrap (IntKind.u32.wrap (IntKind.u32.wrap (IntKind.u32.wrap (v.h + dB1 v.e) + dChoose v.e v.f v.g) + k) + w)
def dU (v : V8) : Int := IntKind.u32.wrap (dB0 v.a + dMost v.a v.b v.c)
def dRound (v : V8) (k w : Int) : V8 := ⟨IntKind.u32.wrap (dT v k w + dU v), v.a, v.b, v.c, IntKind.u32.wrap (v.d + dT v k w), v.e, v.f, v.g⟩
def dRounds (K W : List Int) (s : V8) : Nat → V8
  | 0 => s
  | i + 1 => dRound (dRounds K W s i) (K.getD i 0) (W.getD i 0)
def dAdd (s v : V8) : V8 := ⟨IntKind.u32.wrap (s.a + v.a), IntKind.u32.wrap (s.b + v.b), IntKind.u32.wrap (s.c + v.c), IntKind.u32.wrap (s.d + v.d), IntKind.u32.wrap (s.e + v.e), IntKind.u32.wrap (s.f + v.f), IntKind.u32.wrap (s.g + v.g), IntKind.u32.wrap (s.h + v.h)⟩
/-- What a block is turned into. -/
def dBlock (K : List Int) (s : V8) (bs : List UInt8) : V8 := dAdd s (dRounds K (dW2 bs 48) s 64)
theorem dW1_zero (bs : List UInt8) : dW1 bs 0 = List.replicate 64 0 := rfl
theorem dW1_succ (bs : List UInt8) (i : Nat) : dW1 bs (i + 1) = dSet1 bs (dW1 bs i) i := rfl
theorem dW2_zero (bs : List UInt8) : dW2 bs 0 = dW1 bs 16 := rfl
theorem dW2_succ (bs : List UInt8) (i : Nat) : dW2 bs (i + 1) = dSet2 (dW2 bs i) (16 + i) := rfl
theorem dRounds_zero (K W : List Int) (s : V8) : dRounds K W s 0 = s := rfl
theorem dRounds_succ (K W : List Int) (s : V8) (i : Nat) : dRounds K W s (i + 1) = dRound (dRounds K W s i) (K.getD i 0) (W.getD i 0) := rfl
attribute [irreducible] dW1 dW2 dRounds
end Go.Proofs.YtomijhgicennbaaGreat
namespace Go.Proofs.YtomijhgicennbaaGreat
open Go
set_option maxHeartbeats 4000000
set_option linter.unusedSimpArgs false
set_option linter.unusedVariables false
set_option maxRecDepth 20000
theorem s0_ok (x : Int) : Trip Tryz.prog 109 [v32 x] [] (fun r l => r = v32 (dS0 x) ∧ l = []) := by
  have t1 := turn_ok x 7 (by omega)
  have t2 := turn_ok x 18 (by omega)
  unfold dS0 dShr
  refine Trip.of_body Tryz.func109 rfl Tryz.ntmps109 Tryz.results109 rfl ?_
  refine Wsr (Ls (Rdo.assign rfl) (Lnt (Wsr (Ls (Rdo.move rfl) ?_))))
  refine WpL.step (Sc (t1) rfl ?_)
  rintro _ _ ⟨rfl, rfl⟩
  refine Ll ?_
  refine Ls (Rdo.move rfl) ?_
  refine WpL.step (Sc (t2) rfl ?_)
  rintro _ _ ⟨rfl, rfl⟩
  refine Ll ?_
  refine Ls (Rdo.xor rfl rfl) (Ls (Rdo.move rfl) ?_)
  refine Ls (Rdo.shr rfl rfl (by omega)) ?_
  refine Ls (Rdo.xor rfl rfl) (Ls (Rdo.assign rfl) (Lnt (Wp.ret ?_)))
  refine Rt (ResV.tmp rfl ResV.nil) ⟨rfl, rfl⟩
theorem s1_ok (x : Int) : Trip Tryz.prog 110 [v32 x] [] (fun r l => r = v32 (dS1 x) ∧ l = []) := by
  have t1 := turn_ok x 17 (by omega)
  have t2 := turn_ok x 19 (by omega)
  unfold dS1 dShr
  refine Trip.of_body Tryz.func110 rfl Tryz.ntmps110 Tryz.results110 rfl ?_
  refine Wsr (Ls (Rdo.assign rfl) (Lnt (Wsr (Ls (Rdo.move rfl) ?_))))
  refine WpL.step (Sc (t1) rfl ?_)
  rintro _ _ ⟨rfl, rfl⟩
  refine Ll ?_
  refine Ls (Rdo.move rfl) ?_
  refine WpL.step (Sc (t2) rfl ?_)
  rintro _ _ ⟨rfl, rfl⟩
  refine Ll ?_
  refine Ls (Rdo.xor rfl rfl) (Ls (Rdo.move rfl) ?_)
  refine Ls (Rdo.shr rfl rfl (by omega)) ?_
  refine Ls (Rdo.xor rfl rfl) (Ls (Rdo.assign rfl) (Lnt (Wp.ret ?_)))
  refine Rt (ResV.tmp rfl ResV.nil) ⟨rfl, rfl⟩
theorem b0_ok (x : Int) : Trip Tryz.prog 113 [v32 x] [] (fun r l => r = v32 (dB0 x) ∧ l = []) := by
  have t1 := turn_ok x 2 (by omega)
  have t2 := turn_ok x 13 (by omega)
  have t3 := turn_ok x 22 (by omega)
  unfold dB0
  refine Trip.of_body Tryz.func113 rfl Tryz.ntmps113 Tryz.results113 rfl ?_
  refine Wsr (Ls (Rdo.assign rfl) (Lnt (Wsr (Ls (Rdo.move rfl) ?_))))
  refine WpL.step (Sc (t1) rfl ?_)
  rintro _ _ ⟨rfl, rfl⟩
  refine Ll ?_
  refine Ls (Rdo.move rfl) ?_
  refine WpL.step (Sc (t2) rfl ?_)
  rintro _ _ ⟨rfl, rfl⟩
  refine Ll ?_
  refine Ls (Rdo.xor rfl rfl) (Ls (Rdo.move rfl) ?_)
  refine WpL.step (Sc (t3) rfl ?_)
  rintro _ _ ⟨rfl, rfl⟩
  refine Ll ?_
  refine Ls (Rdo.xor rfl rfl) (Ls (Rdo.assign rfl) (Lnt (Wp.ret ?_)))
  refine Rt (ResV.tmp rfl ResV.nil) ⟨rfl, rfl⟩
theorem b1_ok (x : Int) : Trip Tryz.prog 111 [v32 x] [] (fun r l => r = v32 (dB1 x) ∧ l = []) := by
  have t1 := turn_ok x 6 (by omega)
  have t2 := turn_ok x 11 (by omega)
  have t3 := turn_ok x 25 (by omega)
  unfold dB1
  refine Trip.of_body Tryz.func111 rfl Tryz.ntmps111 Tryz.results111 rfl ?_
  refine Wsr (Ls (Rdo.assign rfl) (Lnt (Wsr (Ls (Rdo.move rfl) ?_))))
  refine WpL.step (Sc (t1) rfl ?_)
  rintro _ _ ⟨rfl, rfl⟩
  refine Ll ?_
  refine Ls (Rdo.move rfl) ?_
  refine WpL.step (Sc (t2) rfl ?_)
  rintro _ _ ⟨rfl, rfl⟩
  refine Ll ?_
  refine Ls (Rdo.xor rfl rfl) (Ls (Rdo.move rfl) ?_)
  refine WpL.step (Sc (t3) rfl ?_)
  rintro _ _ ⟨rfl, rfl⟩
  refine Ll ?_
  refine Ls (Rdo.xor rfl rfl) (Ls (Rdo.assign rfl) (Lnt (Wp.ret ?_)))
  refine Rt (ResV.tmp rfl ResV.nil) ⟨rfl, rfl⟩
theorem choose_ok (x y z : Int) : Trip Tryz.prog 112 [v32 x, v32 y, v32 z] [] (fun r l => r = v32 (dChoose x y z) ∧ l = []) := by
  unfold dChoose dNot
  refine Trip.of_body Tryz.func112 rfl Tryz.ntmps112 Tryz.results112 rfl ?_
  refine Wsr (Ls (Rdo.assign rfl) (Lnt (Wsr (Ls (Rdo.move rfl) (Ls (Rdo.move rfl) (Ls (Rdo.and rfl rfl) (Ls (Rdo.move rfl) (Ls (Rdo.compl rfl) (Ls (Rdo.move rfl) (Ls (Rdo.and rfl rfl) (Ls (Rdo.xor rfl rfl) (Ls (Rdo.assign rfl) (Lnt ?_)))))))))))))
  refine Wp.ret ?_
  refine Rt (ResV.tmp rfl ResV.nil) ⟨rfl, rfl⟩
theorem most_ok (x y z : Int) : Trip Tryz.prog 114 [v32 x, v32 y, v32 z] [] (fun r l => r = v32 (dMost x y z) ∧ l = []) := by
  unfold dMost
  refine Trip.of_body Tryz.func114 rfl Tryz.ntmps114 Tryz.results114 rfl ?_
  refine Wsr (Ls (Rdo.assign rfl) (Lnt (Wsr (Ls (Rdo.move rfl) (Ls (Rdo.move rfl) (Ls (Rdo.and rfl rfl) (Ls (Rdo.move rfl) (Ls (Rdo.move rfl) (Ls (Rdo.and rfl rfl) (Ls (Rdo.xor rfl rfl) (Ls (Rdo.move rfl) (Ls (Rdo.move rfl) (Ls (Rdo.and rfl rfl) ?_)))))))))))))
  refine Ls (Rdo.xor rfl rfl) (Ls (Rdo.assign rfl) (Lnt (Wp.ret ?_)))
  refine Rt (ResV.tmp rfl ResV.nil) ⟨rfl, rfl⟩
end Go.Proofs.YtomijhgicennbaaGreat
namespace Go.Proofs.YtomijhgicennbaaGreat
open Go
set_option maxHeartbeats 4000000
set_option linter.unusedSimpArgs false
set_option linter.unusedVariables false
set_option maxRecDepth 20000
theorem put32 (W : List Int) (i : Nat) (x : Int) (h : i < W.length) : lput (W.map v32) (0 + i * 1) [v32 x] = (W.set i x).map v32 := by
  rw [show 0 + i * 1 = i by omega, lput_step _ _ _ _ (by simpa using h), lput_nil, List.map_set]
theorem at32 (W : List Int) (i : Nat) (h : i < W.length) : (W.map v32)[0 + i * 1]? = some (v32 (W.getD i 0)) := by
  rw [show 0 + i * 1 = i by omega, List.getElem?_map, List.getD_eq_getElem?_getD, List.getElem?_eq_getElem h]
  rfl
theorem byteAt (bs : List UInt8) (i : Nat) (h : i < bs.length) : bs[i]? = some (bs.getD i 0) := by
  rw [List.getD_eq_getElem?_getD, List.getElem?_eq_getElem h]
  rfl
abbrev tkE (s kb nb i : Nat) (v : Value) : Env := [(0, vp s 0), (1, v), (2, vp kb 0), (6, vp nb 0), (14, vi i)]
abbrev tkL (Kl : List Int) (s kb nb : Nat) (S : V8) (v : Value) (bs : List UInt8) (W : List Int) : List HP := [cel nb 136 (W.map v32), cel s 135 S.C, cel kb 136 (Kl.map v32), fz (fun g => RdBytes g v bs)]
def dAddL (s v : List Int) : Nat → List Int
  | 0 => s
  | i + 1 => (dAddL s v i).set i (IntKind.u32.wrap ((dAddL s v i).getD i 0 + v.getD i 0))
theorem dAddL_zero (s v : List Int) : dAddL s v 0 = s := rfl
theorem dAddL_succ (s v : List Int) (i : Nat) : dAddL s v (i + 1) = (dAddL s v i).set i (IntKind.u32.wrap ((dAddL s v i).getD i 0 + v.getD i 0)) := rfl
theorem dAddL_len (s v : List Int) (i : Nat) : (dAddL s v i).length = s.length := by
  induction i with
  | zero => rfl
  | succ i ih => simp [dAddL, ih]
theorem dAddL_end (S V : V8) : dAddL S.l V.l 8 = (dAdd S V).l := rfl
attribute [irreducible] dAddL
abbrev adL (Kl : List Int) (s kb nv : Nat) (V : V8) (v : Value) (bs : List UInt8) (A : List Int) : List HP := [cel s 135 (A.map v32), cel nv 135 V.C, cel kb 136 (Kl.map v32), fz (fun g => RdBytes g v bs)]
theorem take_ok (Kl : List Int) (hKl : Kl.length = 64) (s kb : Nat) (S : V8) (v : Value) (bs : List UInt8) (hl : 64 ≤ bs.length) (hl2 : bs.length ≤ 1099511627776) :
    Trip Tryz.prog 76 [vp s 0, v, vp kb 0] [cel s 135 S.C, cel kb 136 (Kl.map v32), fz (fun g => RdBytes g v bs)]
      (fun r l => r = .tuple #[] ∧ l = [cel s 135 (dBlock Kl S bs).C, cel kb 136 (Kl.map v32), fz (fun g => RdBytes g v bs)]) := by
  refine Trip.get (Pk.next (Pk.next Pk.here)) shape_bytes ?_
  rintro ⟨a, c, rfl⟩
  refine Trip.get (Pk.next (Pk.next Pk.here)) (row_some (by omega)) ?_
  rintro ⟨pb, po, rfl⟩
  refine Trip.of_body Tryz.func76 rfl Tryz.ntmps76 Tryz.results76 rfl ?_
  refine Wsr ?_
  (refine WpL.step (Stp.alloc rfl ?_); intro nb2)
  refine Lnt (Wp.seq (Wsr (Ls (Rdo.move rfl) (Lnt (Wp.block ?_)))))
  refine Wp.loopE (fun k e h => ∃ i : Nat, i + k = 16 ∧ e = tkE s kb nb2 i (.slice (some ⟨pb, po, none⟩) bs.length c) ∧ h = tkL Kl s kb nb2 S (.slice (some ⟨pb, po, none⟩) bs.length c) bs (dW1 bs i)) 16
    (e0 := tkE s kb nb2 0 (.slice (some ⟨pb, po, none⟩) bs.length c)) (l0 := tkL Kl s kb nb2 S (.slice (some ⟨pb, po, none⟩) bs.length c) bs (dW1 bs 0)) (by repeat (first | exact trivial | refine ⟨rfl, ?_⟩)) (by repeat (first | exact trivial | refine ⟨rfl, ?_⟩)) (by simp only [tkL, dW1_zero, List.map_replicate]; exact Gk) ⟨0, by omega, rfl, rfl⟩ ?_
  rintro k e h ⟨i, hik, rfl, rfl⟩
  by_cases hi : i < 16
  · have hi' : (i : Int) < 16 := by omega
    have m1 : (4 : Int) * (i : Int) = ((4 * i : Nat) : Int) := by omega
    have a1 : ((4 * i : Nat) : Int) + 1 = ((4 * i + 1 : Nat) : Int) := by omega
    have a2 : ((4 * i : Nat) : Int) + 2 = ((4 * i + 2 : Nat) : Int) := by omega
    have a3 : ((4 * i : Nat) : Int) + 3 = ((4 * i + 3 : Nat) : Int) := by omega
    have b0 := byteAt bs (4 * i) (by omega)
    have b1 := byteAt bs (4 * i + 1) (by omega)
    have b2 := byteAt bs (4 * i + 2) (by omega)
    have b3 := byteAt bs (4 * i + 3) (by omega)
    have hlen := dW1_len bs i
    refine Wsr (Ls (Rdo.lti rfl rfl) (Lnt (Wp.seq (cK rfl (Wp.skip (Thn.n (Wp.seq (Wp.block (Wsr (Ls (Rdo.move rfl) (Ls (Rdo.assign rfl) (Lnt ?_))))))))))))
    refine Wp.draw (by kernel_rfl) ?_
    refine Qt (i := 0) rfl (Rdo.move rfl) (Qt (i := 1) rfl (Rdo.move rfl) (Qt (i := 2) rfl (Rdo.move rfl) ?_))
    refine Qt (i := 3) rfl (Rdo.mulE rfl rfl (by assumption) (by omega)) ?_
    refine Qt (i := 4) rfl (Rdo.indexSlice rfl rfl (by omega)) ?_
    refine Qt (i := 8) rfl (Rdo.move rfl) (Qt (i := 9) rfl (Rdo.move rfl) ?_)
    refine Qt (i := 10) rfl (Rdo.mulE rfl rfl (by assumption) (by omega)) ?_
    refine Qt (i := 11) rfl (Rdo.addE rfl rfl (by assumption) (by omega)) ?_
    refine Qt (i := 12) rfl (Rdo.indexSlice rfl rfl (by omega)) ?_
    refine Qt (i := 17) rfl (Rdo.move rfl) (Qt (i := 18) rfl (Rdo.move rfl) ?_)
    refine Qt (i := 19) rfl (Rdo.mulE rfl rfl (by assumption) (by omega)) ?_
    refine Qt (i := 20) rfl (Rdo.addE rfl rfl (by assumption) (by omega)) ?_
    refine Qt (i := 21) rfl (Rdo.indexSlice rfl rfl (by omega)) ?_
    refine Qt (i := 26) rfl (Rdo.move rfl) (Qt (i := 27) rfl (Rdo.move rfl) ?_)
    refine Qt (i := 28) rfl (Rdo.mulE rfl rfl (by assumption) (by omega)) ?_
    refine Qt (i := 29) rfl (Rdo.addE rfl rfl (by assumption) (by omega)) ?_
    refine Qt (i := 30) rfl (Rdo.indexSlice rfl rfl (by omega)) ?_
    refine WpR.phaseL (m := 1) #[true, true, true, true, true, true, true, true, true, true, true, true, true, true, true, true, true, true, true, true, true, true, true, true, true, true, true, true, true, true, true, true, true, true, true, false] 15 _ rfl (by kernel_rfl) (Tk.cons (Pk.next (Pk.next (Pk.next Pk.here))) Tk.nil) ?_
    refine At (i := 5) rfl (Rdo.load rfl (Lds.fz1 (by first | assumption | exact bytesC_at (by assumption) | exact intsC_at (by assumption) | exact boolsC_at (by assumption)))) ?_
    refine At (i := 6) rfl (Rdo.convInt rfl) ?_
    refine At (i := 7) rfl (Rdo.shl rfl rfl (by omega)) ?_
    refine At (i := 13) rfl (Rdo.load rfl (Lds.fz1 (by first | assumption | exact bytesC_at (by assumption) | exact intsC_at (by assumption) | exact boolsC_at (by assumption)))) ?_
    refine At (i := 14) rfl (Rdo.convInt rfl) ?_
    refine At (i := 15) rfl (Rdo.shl rfl rfl (by omega)) ?_
    refine At (i := 16) rfl (Rdo.or rfl rfl) ?_
    refine At (i := 22) rfl (Rdo.load rfl (Lds.fz1 (by first | assumption | exact bytesC_at (by assumption) | exact intsC_at (by assumption) | exact boolsC_at (by assumption)))) ?_
    refine At (i := 23) rfl (Rdo.convInt rfl) ?_
    refine At (i := 24) rfl (Rdo.shl rfl rfl (by omega)) ?_
    refine At (i := 25) rfl (Rdo.or rfl rfl) ?_
    refine At (i := 31) rfl (Rdo.load rfl (Lds.fz1 (by first | assumption | exact bytesC_at (by assumption) | exact intsC_at (by assumption) | exact boolsC_at (by assumption)))) ?_
    refine At (i := 32) rfl (Rdo.convInt rfl) (At (i := 33) rfl (Rdo.or rfl rfl) ?_)
    refine At (i := 34) rfl (Rdo.indexArr rfl rfl (by omega)) ?_
    refine WpA.stop (by kernel_rfl) ?_
    refine Ql ?_
    refine Qo (i := 35) rfl (Stp.storeV rfl rfl (VC.i _ _) rfl (Sts.next (Sts.here (oneCells1 rfl) ?_)) ?_)
    · simp only [List.length_map, List.length_cons, List.length_nil, hlen]; omega
    rw [put32 _ _ _ (by omega)]
    refine WpR.gh (l' := tkL Kl s kb nb2 S (.slice (some ⟨pb, po, none⟩) bs.length c) bs (dW1 bs (i + 1))) (by rw [dW1_succ]; exact Gk) ?_
    refine WpR.done (by kernel_rfl) ?_
    refine Blk.n (Thn.n (Wp.region ?_))
    refine Ls (Rdo.succ rfl rfl (by omega)) ?_
    refine Ls (Rdo.move rfl) (Lnt ?_)
    exact ⟨k - 1, _, _, by omega, ⟨i + 1, by omega, rfl, rfl⟩, (by repeat (first | exact trivial | refine ⟨rfl, ?_⟩)), Gk⟩
  · obtain rfl : i = 16 := by omega
    refine Wsr (Ls (Rdo.lti rfl rfl) (Lnt (Wp.seq ?_)))
    refine Wp.condF rfl ?_
    refine Wp.exit ?_
    refine Thn.x ?_
    refine Thn.x ?_
    refine Blk.here ?_
    refine Thn.n (Wp.seq (Wsr (Ls (Rdo.assign rfl) (Lnt (Wp.block ?_)))))
    refine Wp.loopE (fun k e h => ∃ j : Nat, j + k = 48 ∧ e = [(0, vp s 0), (2, vp kb 0), (6, vp nb2 0), (8, vi ((16 + j : Nat) : Int))] ∧ h = tkL Kl s kb nb2 S (.slice (some ⟨pb, po, none⟩) bs.length c) bs (dW2 bs j)) 48
      (e0 := [(0, vp s 0), (2, vp kb 0), (6, vp nb2 0), (8, vi ((16 + 0 : Nat) : Int))]) (l0 := tkL Kl s kb nb2 S (.slice (some ⟨pb, po, none⟩) bs.length c) bs (dW2 bs 0)) (by repeat (first | exact trivial | refine ⟨rfl, ?_⟩)) (by repeat (first | exact trivial | refine ⟨rfl, ?_⟩)) (by simp only [tkL, dW2_zero]; exact Gk) ⟨0, by omega, rfl, rfl⟩ ?_
    rintro k e h ⟨j, hjk, rfl, rfl⟩
    by_cases hj : j < 48
    · have hj' : ((16 + j : Nat) : Int) < 64 := by omega
      have hlen := dW2_len bs j
      have n1 : ((16 + j : Nat) : Int) - 16 = ((16 + j - 16 : Nat) : Int) := by omega
      have n2 : ((16 + j : Nat) : Int) - 15 = ((16 + j - 15 : Nat) : Int) := by omega
      have n3 : ((16 + j : Nat) : Int) - 7 = ((16 + j - 7 : Nat) : Int) := by omega
      have n4 : ((16 + j : Nat) : Int) - 2 = ((16 + j - 2 : Nat) : Int) := by omega
      have w1 := at32 (dW2 bs j) (16 + j - 16) (by omega)
      have w2 := at32 (dW2 bs j) (16 + j - 15) (by omega)
      have w3 := at32 (dW2 bs j) (16 + j - 7) (by omega)
      have w4 := at32 (dW2 bs j) (16 + j - 2) (by omega)
      have c1 := s0_ok ((dW2 bs j).getD (16 + j - 15) 0)
      have c2 := s1_ok ((dW2 bs j).getD (16 + j - 2) 0)
      refine Wp.seq (Wsr (Ls (Rdo.move rfl) (Ls (Rdo.lti rfl rfl) (Lnt (cK rfl (Wp.skip (Thn.n (Wp.seq (Wp.block ?_)))))))))
      refine Wp.draw (by kernel_rfl) ?_
      refine Qt (i := 0) rfl (Rdo.move rfl) (Qt (i := 1) rfl (Rdo.move rfl) ?_)
      refine Qt (i := 2) rfl (Rdo.subE rfl rfl (by assumption) (by omega)) ?_
      refine Qt (i := 3) rfl (Rdo.indexArr rfl rfl (by omega)) ?_
      refine Qt (i := 5) rfl (Rdo.move rfl) ?_
      refine Qt (i := 6) rfl (Rdo.subE rfl rfl (by assumption) (by omega)) ?_
      refine Qt (i := 7) rfl (Rdo.indexArr rfl rfl (by omega)) ?_
      refine Qt (i := 11) rfl (Rdo.move rfl) ?_
      refine Qt (i := 12) rfl (Rdo.subE rfl rfl (by assumption) (by omega)) ?_
      refine Qt (i := 13) rfl (Rdo.indexArr rfl rfl (by omega)) ?_
      refine Qt (i := 16) rfl (Rdo.move rfl) ?_
      refine Qt (i := 17) rfl (Rdo.subE rfl rfl (by assumption) (by omega)) ?_
      refine Qt (i := 18) rfl (Rdo.indexArr rfl rfl (by omega)) ?_
      refine WpR.phaseL (m := 1) #[true, true, true, true, true, true, true, true, true, true, true, true, true, true, true, true, true, true, true, true, true, true, true, false] 10 _ rfl (by kernel_rfl) (Tk.cons Pk.here Tk.nil) ?_
      refine At (i := 4) rfl (Rdo.load rfl (Lds.one (by assumption))) ?_
      refine At (i := 8) rfl (Rdo.load rfl (Lds.one (by assumption))) ?_
      refine At (i := 14) rfl (Rdo.load rfl (Lds.one (by assumption))) ?_
      refine At (i := 19) rfl (Rdo.load rfl (Lds.one (by assumption))) ?_
      refine WpA.one (i := 9) rfl (by kernel_rfl) (Sc (c1) rfl ?_)
      rintro _ _ ⟨rfl, rfl⟩
      refine WpA.lst (by simp only [List.cons_append, List.nil_append]; exact rfl) ?_
      refine At (i := 10) rfl (Rdo.add rfl rfl) (At (i := 15) rfl (Rdo.add rfl rfl) ?_)
      refine WpA.one (i := 20) rfl (by kernel_rfl) (Sc (c2) rfl ?_)
      rintro _ _ ⟨rfl, rfl⟩
      refine WpA.lst (by simp only [List.cons_append, List.nil_append]; exact rfl) ?_
      refine At (i := 21) rfl (Rdo.add rfl rfl) ?_
      refine At (i := 22) rfl (Rdo.indexArr rfl rfl (by omega)) ?_
      refine WpA.stop (by kernel_rfl) ?_
      refine Ql ?_
      refine Qo (i := 23) rfl (Stp.storeV rfl rfl (VC.i _ _) rfl (Sts.here (oneCells1 rfl) ?_) ?_)
      · simp only [List.length_map, List.length_cons, List.length_nil, hlen]; omega
      rw [put32 _ _ _ (by omega)]
      refine WpR.gh (l' := tkL Kl s kb nb2 S (.slice (some ⟨pb, po, none⟩) bs.length c) bs (dW2 bs (j + 1))) (by rw [dW2_succ]; exact Gk) ?_
      refine WpR.done (by kernel_rfl) ?_
      refine Blk.n (Thn.n (Wp.region (Ls (Rdo.move rfl) ?_)))
      refine Ls (Rdo.succ rfl rfl (by omega)) ?_
      refine Ls (Rdo.assign rfl) (Lnt ?_)
      exact ⟨k - 1, _, _, by omega, ⟨j + 1, by omega, rfl, rfl⟩, (by repeat (first | exact trivial | refine ⟨rfl, ?_⟩)), Gk⟩
    · obtain rfl : j = 48 := by omega
      refine Wp.seq (Wsr (Ls (Rdo.move rfl) (Ls (Rdo.lti rfl rfl) (Lnt ?_))))
      refine Wp.condF rfl ?_
      refine Wp.exit ?_
      refine Thn.x ?_
      refine Thn.x ?_
      refine Blk.here ?_
      refine Thn.n (Wsr (Ls (Rdo.move rfl) (Ls (Rdo.nilCheck rfl) ?_)))
      refine Ls (Rdo.load rfl (Lds.next Ld)) ?_
      (refine WpL.step (Stp.alloc rfl ?_); intro nb18)
      refine WpL.step (St rfl rfl (VC.ag _) ?_)
      refine Lnt (Wp.seq (Wsr (Ls (Rdo.move rfl) (Lnt (Wp.block ?_)))))
      generalize hW : dW2 bs 48 = W at *
      have hWl : W.length = 64 := by rw [← hW]; exact dW2_len bs 48
      refine Wp.loopE (fun k e h => ∃ m : Nat, m + k = 64 ∧ e = [(0, vp s 0), (2, vp kb 0), (6, vp nb2 0), (9, vp nb18 0), (83, vi m)] ∧ h = cel nb18 135 (dRounds Kl W S m).C :: tkL Kl s kb nb2 S (.slice (some ⟨pb, po, none⟩) bs.length c) bs W) 64
        (e0 := [(0, vp s 0), (2, vp kb 0), (6, vp nb2 0), (9, vp nb18 0), (83, vi (0 : Nat))]) (l0 := cel nb18 135 (dRounds Kl W S 0).C :: tkL Kl s kb nb2 S (.slice (some ⟨pb, po, none⟩) bs.length c) bs W) (by repeat (first | exact trivial | refine ⟨rfl, ?_⟩)) (by repeat (first | exact trivial | refine ⟨rfl, ?_⟩)) (by rw [dRounds_zero]; exact Gk) ⟨0, by omega, rfl, rfl⟩ ?_
      rintro k e h ⟨m, hmk, rfl, rfl⟩
      by_cases hm : m < 64
      · have hm' : (m : Int) < 64 := by omega
        have w1 := at32 W m (by omega)
        have w2 := at32 Kl m (by omega)
        have hdr : dRounds Kl W S (m + 1) = dRound (dRounds Kl W S m) (Kl.getD m 0) (W.getD m 0) := dRounds_succ _ _ _ _
        generalize dRounds Kl W S m = V at *
        have c1 := b1_ok V.e
        have c2 := choose_ok V.e V.f V.g
        have c3 := b0_ok V.a
        have c4 := most_ok V.a V.b V.c
        refine Wsr (Ls (Rdo.lti rfl rfl) (Lnt (Wp.seq (cK rfl (Wp.skip (Thn.n (Wp.seq (Wp.block (Wsr (Ls (Rdo.move rfl) (Ls (Rdo.assign rfl) (Lnt (Wp.seq ?_)))))))))))))
        refine Wp.draw (by kernel_rfl) ?_
        refine Qt (i := 0) rfl (Rdo.indexArrE (i := 7) rfl rfl rfl (by first | omega | (simp <;> omega))) ?_
        refine Qt (i := 2) rfl (Rdo.indexArrE (i := 4) rfl rfl rfl (by first | omega | (simp <;> omega))) ?_
        refine Qt (i := 6) rfl (Rdo.indexArrE (i := 4) rfl rfl rfl (by first | omega | (simp <;> omega))) ?_
        refine Qt (i := 8) rfl (Rdo.indexArrE (i := 5) rfl rfl rfl (by first | omega | (simp <;> omega))) ?_
        refine Qt (i := 10) rfl (Rdo.indexArrE (i := 6) rfl rfl rfl (by first | omega | (simp <;> omega))) ?_
        refine Qt (i := 14) rfl (Rdo.move rfl) (Qt (i := 15) rfl (Rdo.move rfl) (Qt (i := 16) rfl (Rdo.nilCheck rfl) ?_))
        refine Qt (i := 17) rfl (Rdo.indexArr rfl rfl (by omega)) ?_
        refine Qt (i := 20) rfl (Rdo.move rfl) ?_
        refine Qt (i := 21) rfl (Rdo.indexArr rfl rfl (by omega)) ?_
        refine WpR.phaseL (m := 0) #[true, true, true, true, true, true, true, true, true, true, true, true, true, true, true, true, true, true, true, true, true, true, true, true, true] 14 _ rfl (by kernel_rfl) (Tk.cons Pk.here (Tk.cons Pk.here (Tk.cons (Pk.next Pk.here) Tk.nil))) ?_
        refine At (i := 1) rfl (Rdo.load rfl (Lds.one rfl)) (At (i := 3) rfl (Rdo.load rfl (Lds.one rfl)) (At (i := 7) rfl (Rdo.load rfl (Lds.one rfl)) (At (i := 9) rfl (Rdo.load rfl (Lds.one rfl)) (At (i := 11) rfl (Rdo.load rfl (Lds.one rfl)) ?_))))
        refine At (i := 18) rfl (Rdo.load rfl (Lds.next (Lds.next (Lds.one (by assumption))))) ?_
        refine At (i := 22) rfl (Rdo.load rfl (Lds.next (Lds.one (by assumption)))) ?_
        refine WpA.one (i := 4) rfl (by kernel_rfl) (Sc (c1) rfl ?_)
        rintro _ _ ⟨rfl, rfl⟩
        refine WpA.lst (by simp only [List.cons_append, List.nil_append]; exact rfl) ?_
        refine At (i := 5) rfl (Rdo.add rfl rfl) ?_
        refine WpA.one (i := 12) rfl (by kernel_rfl) (Sc (c2) rfl ?_)
        rintro _ _ ⟨rfl, rfl⟩
        refine WpA.lst (by simp only [List.cons_append, List.nil_append]; exact rfl) ?_
        refine At (i := 13) rfl (Rdo.add rfl rfl) (At (i := 19) rfl (Rdo.add rfl rfl) (At (i := 23) rfl (Rdo.add rfl rfl) (At (i := 24) rfl (Rdo.assign rfl) ?_)))
        refine WpA.stop (by kernel_rfl) ?_
        refine Ql ?_
        refine WpR.done (by kernel_rfl) ?_
        refine Thn.n (Wp.seq ?_)
        refine Wp.draw (by kernel_rfl) ?_
        refine Qt (i := 0) rfl (Rdo.indexArrE (i := 0) rfl rfl rfl (by first | omega | (simp <;> omega))) ?_
        refine Qt (i := 3) rfl (Rdo.indexArrE (i := 0) rfl rfl rfl (by first | omega | (simp <;> omega))) ?_
        refine Qt (i := 5) rfl (Rdo.indexArrE (i := 1) rfl rfl rfl (by first | omega | (simp <;> omega))) ?_
        refine Qt (i := 7) rfl (Rdo.indexArrE (i := 2) rfl rfl rfl (by first | omega | (simp <;> omega))) ?_
        refine WpR.load (i := 1) [4, 6, 8] rfl (by kernel_rfl) (by kernel_rfl) (by kernel_rfl) (by kernel_rfl) (by kernel_rfl) rfl Tk.rfl_ (Harm.rd rfl (Rdo.load rfl (Lds.one rfl)) (Harm.rd rfl (Rdo.load rfl (Lds.one rfl)) (Harm.rd rfl (Rdo.load rfl (Lds.one rfl)) Harm.nil))) (Rdo.load rfl (Lds.one rfl)) rfl ?_
        refine WpR.phaseL (m := 0) #[true, true, true, true, true, true, true, true, true, true, true, true] 7 _ rfl (by kernel_rfl) (Tk.cons Pk.here Tk.nil) ?_
        refine At (i := 4) rfl (Rdo.load rfl (Lds.one rfl)) (At (i := 6) rfl (Rdo.load rfl (Lds.one rfl)) (At (i := 8) rfl (Rdo.load rfl (Lds.one rfl)) ?_))
        refine WpA.one (i := 2) rfl (by kernel_rfl) (Sc (c3) rfl ?_)
        rintro _ _ ⟨rfl, rfl⟩
        refine WpA.lst (by simp only [List.cons_append, List.nil_append]; exact rfl) ?_
        refine WpA.one (i := 9) rfl (by kernel_rfl) (Sc (c4) rfl ?_)
        rintro _ _ ⟨rfl, rfl⟩
        refine WpA.lst (by simp only [List.cons_append, List.nil_append]; exact rfl) ?_
        refine At (i := 10) rfl (Rdo.add rfl rfl) (At (i := 11) rfl (Rdo.assign rfl) ?_)
        refine WpA.stop (by kernel_rfl) ?_
        refine Ql ?_
        refine WpR.done (by kernel_rfl) ?_
        refine Thn.n (Wp.region (Ls (Rdo.move rfl) (Ls (Rdo.move rfl) (Ls (Rdo.add rfl rfl) ?_))))
        refine Ls (Rdo.indexArrE (i := 0) rfl rfl rfl (by first | omega | (simp <;> omega))) ?_
        refine Ls (Rdo.load rfl (Lds.one rfl)) ?_
        refine Ls (Rdo.indexArrE (i := 1) rfl rfl rfl (by first | omega | (simp <;> omega))) ?_
        refine Ls (Rdo.load rfl (Lds.one rfl)) ?_
        refine Ls (Rdo.indexArrE (i := 2) rfl rfl rfl (by first | omega | (simp <;> omega))) ?_
        refine Ls (Rdo.load rfl (Lds.one rfl)) ?_
        refine Ls (Rdo.indexArrE (i := 3) rfl rfl rfl (by first | omega | (simp <;> omega))) ?_
        refine Ls (Rdo.load rfl (Lds.one rfl)) (Ls (Rdo.move rfl) (Ls (Rdo.add rfl rfl) ?_))
        refine Ls (Rdo.indexArrE (i := 4) rfl rfl rfl (by first | omega | (simp <;> omega))) ?_
        refine Ls (Rdo.load rfl (Lds.one rfl)) ?_
        refine Ls (Rdo.indexArrE (i := 5) rfl rfl rfl (by first | omega | (simp <;> omega))) ?_
        refine Ls (Rdo.load rfl (Lds.one rfl)) ?_
        refine Ls (Rdo.indexArrE (i := 6) rfl rfl rfl (by first | omega | (simp <;> omega))) ?_
        refine Ls (Rdo.load rfl (Lds.one rfl)) (Ls (Rdo.bldArr1 rfl rfl) ?_)
        refine WpL.step (St rfl rfl (VC.ag _) ?_)
        refine WpL.nil (Blk.n (Thn.n (Wp.region ?_)))
        refine Ls (Rdo.succ rfl rfl (by omega)) ?_
        refine Ls (Rdo.move rfl) (Lnt ?_)
        exact ⟨k - 1, _, _, by omega, ⟨m + 1, by omega, rfl, rfl⟩, (by repeat (first | exact trivial | refine ⟨rfl, ?_⟩)), by rw [hdr]; exact Gk⟩
      · obtain rfl : m = 64 := by omega
        refine Wsr (Ls (Rdo.lti rfl rfl) (Lnt (Wp.seq ?_)))
        refine Wp.condF rfl ?_
        refine Wp.exit ?_
        refine Thn.x ?_
        refine Thn.x ?_
        refine Blk.here ?_
        refine Thn.n (Wsr (Ls (Rdo.move rfl) (Lnt (Wp.block ?_))))
        have hend : dBlock Kl S bs = dAdd S (dRounds Kl W S 64) := by rw [← hW]; rfl
        rw [hend]
        clear hend hW
        generalize dRounds Kl W S 64 = V at *
        refine Wp.loopE (fun k e h => ∃ i : Nat, i + k = 8 ∧ e = [(0, vp s 0), (9, vp nb18 0), (142, vi i)] ∧ h = adL Kl s kb nb18 V (.slice (some ⟨pb, po, none⟩) bs.length c) bs (dAddL S.l V.l i)) 8
          (e0 := [(0, vp s 0), (9, vp nb18 0), (142, vi (0 : Nat))]) (l0 := adL Kl s kb nb18 V (.slice (some ⟨pb, po, none⟩) bs.length c) bs (dAddL S.l V.l 0)) (by repeat (first | exact trivial | refine ⟨rfl, ?_⟩)) (by repeat (first | exact trivial | refine ⟨rfl, ?_⟩)) (by rw [dAddL_zero]; exact Gk) ⟨0, by omega, rfl, rfl⟩ ?_
        rintro k e h ⟨i, hik, rfl, rfl⟩
        by_cases hi : i < 8
        · have hi' : (i : Int) < 8 := by omega
          have hlen := dAddL_len S.l V.l i
          have w1 := at32 (dAddL S.l V.l i) i (by rw [hlen]; exact hi)
          have w2 : V.C[0 + i * 1]? = some (v32 (V.l.getD i 0)) := at32 V.l i hi
          refine Wsr (Ls (Rdo.lti rfl rfl) (Lnt (Wp.seq (cK rfl (Wp.skip (Thn.n (Wp.seq (Wp.block (Wsr (Ls (Rdo.move rfl) (Ls (Rdo.assign rfl) (Lnt ?_))))))))))))
          refine Wp.draw (by kernel_rfl) ?_
          refine Qt (i := 0) rfl (Rdo.move rfl) (Qt (i := 1) rfl (Rdo.move rfl) (Qt (i := 2) rfl (Rdo.nilCheck rfl) ?_))
          refine Qt (i := 3) rfl (Rdo.indexArr rfl rfl (by omega)) ?_
          refine Qt (i := 5) rfl (Rdo.move rfl) ?_
          refine Qt (i := 6) rfl (Rdo.indexArr rfl rfl (by omega)) ?_
          refine Qt (i := 9) rfl (Rdo.nilCheck rfl) ?_
          refine WpR.phaseL (m := 3) #[true, true, true, true, true, true, true, true, false, true, false, false] 2 _ rfl (by kernel_rfl) Tk.rfl_ ?_
          refine At (i := 4) rfl (Rdo.load rfl (Lds.one (by assumption))) ?_
          refine At (i := 7) rfl (Rdo.load rfl (Lds.next (Lds.one (by assumption)))) ?_
          refine WpA.stop (by kernel_rfl) ?_
          refine WpR.lst (by simp only [List.cons_append, List.nil_append, List.append_nil]; exact rfl) ?_
          refine Qt (i := 8) rfl (Rdo.add rfl rfl) ?_
          refine Qt (i := 10) rfl (Rdo.indexArr rfl rfl (by omega)) ?_
          refine Qo (i := 11) rfl (Stp.storeV rfl rfl (VC.i _ _) rfl (Sts.here (oneCells1 rfl) ?_) ?_)
          · simp only [List.length_map, List.length_cons, List.length_nil, hlen]; omega
          rw [put32 _ _ _ (by rw [hlen]; exact hi), ← dAddL_succ]
          refine WpR.done (by kernel_rfl) ?_
          refine Blk.n (Thn.n (Wp.region ?_))
          refine Ls (Rdo.succ rfl rfl (by omega)) ?_
          refine Ls (Rdo.move rfl) (Lnt ?_)
          exact ⟨k - 1, _, _, by omega, ⟨i + 1, by omega, rfl, rfl⟩, (by repeat (first | exact trivial | refine ⟨rfl, ?_⟩)), Gk⟩
        · obtain rfl : i = 8 := by omega
          rw [dAddL_end]
          refine Wsr (Ls (Rdo.lti rfl rfl) (Lnt (Wp.seq ?_)))
          refine Wp.condF rfl ?_
          refine Wp.exit ?_
          refine Thn.x ?_
          refine Thn.x ?_
          refine Blk.here ?_
          refine Ret.end_ ResV.nil Gk ⟨rfl, rfl⟩
end Go.Proofs.YtomijhgicennbaaGreat
namespace Go.Proofs.YtomijhgicennbaaGreat
open Go
set_option maxHeartbeats 4000000
set_option linter.unusedSimpArgs false
set_option linter.unusedVariables false
set_option maxRecDepth 20000
theorem AR.spc {P : Program} {t n e' : Nat} (h : AR P t n e') : P.underlying t = some (.array (P.arrayLen t) (P.elem t)) ∧ P.arrayLen t = n ∧ P.elem t = e' := by
  have h1 := h.pf
  have h2 : P.arrayLen t = n := by simp [Program.arrayLen, h1]
  have h3 : P.elem t = e' := by simp [Program.elem, h1]
  exact ⟨by rw [h2, h3]; exact h1, h2, h3⟩
section
variable {P : Program} {e : Env} {C : List HP} {t ty n e' s : Nat} {x lo : Operand} {b o : Nat} {k : IntKind} {li : Int}
theorem Rdo.slArr [ht : AR P t n e'] [hs : SZ P e' s] (hx : evl e x = some (.pointer (some ⟨b, o, none⟩))) : Rdo P e C (.slice t x none none none) ty (.slice (some ⟨b, o, none⟩) n n) := by
  unfold Rdo
  intro G w a n' dst pos after g hG he
  obtain ⟨h1, h2, h3⟩ := (AR.spc ht)
  have hsz := hs.run (w := w)
  rw [← h3] at hsz
  simp only [execOp, he.eval hx, Option.map_none, Sem.run_bind]
  rw [run_sliceAt_array_all w t ⟨b, o, none⟩ h1, hsz]
  simp [slicedAt, h2, addr_add]
theorem Rdo.slArr_l (l : Nat) [ht : AR P t n e'] [hs : SZ P e' s] (hx : evl e x = some (.pointer (some ⟨b, o, none⟩))) (hl : evl e lo = some (.int k li)) (hli : li = l) (h : l ≤ n) : Rdo P e C (.slice t x (some lo) none none) ty (.slice (some (slA b o l n s)) (n - l) (n - l)) := by
  unfold Rdo
  intro G w a n' dst pos after g hG he
  subst hli
  obtain ⟨h1, h2, h3⟩ := (AR.spc ht)
  have hsz := hs.run (w := w)
  rw [← h3] at hsz
  simp only [execOp, he.eval hx, he.eval hl, Option.map_some, Option.map_none, Sem.run_bind]
  rw [run_sliceAt_array_l w t ⟨b, o, none⟩ h1 k (l : Int) (by omega) (by omega), hsz]
  simp only [Result.andThen_ok, Sem.run_pure, Int.toNat_natCast, slicedAt, slA, h2, addr_add]
end
/-- An element of an array that is a value. -/
theorem Rdo.indexAgg1 {P : Program} {e : Env} {C : List HP} {t ty n e' i : Nat} {x y : Operand} {k : IntKind} {cs : List Value} {v : Value} [h : AR P t n e'] [hs : SZ P e' 1] [ha : AG P e' false] (hx : evl e x = some (.agg cs.toArray)) (hy : evl e y = some (.int k i)) (hi : i < n) (hv : cs[i]? = some v) : Rdo P e C (.index t x y) ty v := by
  have key : ∀ w, (Instr.index t (.agg cs.toArray) (.int k i)).run P w = .ok v w := by
    intro w
    have h0 : (0 : Int) ≤ (i : Int) ∧ (i : Int) < n := by omega
    simp [Instr.index, asIntOf, run_underlying h.pf, h0, hs.run, part, ha.run, hv]
    omega
  unfold Rdo
  intro G w a n' dst pos after g hl he
  simp [execOp, he.eval hx, he.eval hy, key]
/-- copy of a whole source. -/
theorem Stp.copyAll {P : Program} {n d : Nat} {x y : Operand} {t xt ty e' m dLen dCap : Nat} {pos : String} {after : Array Edge} {g : Option (Nat × Bool)} {e : Env} {l l' : List HP} {Φ : Env → List HP → Prop} {a : Addr} {u : Value} {news : List Value}
    [ht : EL P t e'] [hz : SZ P e' 1] (hx : evl e x = some (.slice (some a) dLen dCap)) (hy : evl e y = some u) (hs : Src P l 1 u m news) (hm : m ≤ dLen) (hst : Sts P l a news l') (hd : Nat.blt d n = true)
    (hk : Φ (eset e d (.int .i64 m)) l') :
    Stp P n ⟨some d, .call { callee := .builtin .copy, args := [x, y].toArray, argTypes := [t, xt].toArray }, ty, pos, after, g⟩ e l Φ := by
  unfold Stp
  intro F w a' ds hl he K Q0 hK
  unfold Src at hs
  unfold Sts at hst
  obtain ⟨h1, h2⟩ := hs F w hl
  obtain ⟨w', hr, hh, hxt⟩ := hst F w hl
  unfold OpW
  have hmin : Nat.min m dLen = m := Nat.min_eq_left hm
  have hrun : (Builtin.copy_ #[t, xt] ty #[.slice (some a) dLen dCap, u]).run P w = .ok (goInt m) w' := by
    simp [Builtin.copy_, run_underlying ht.pf, h1, hmin, hz.run, h2, hr]
  have e1 : (execOp a'.eval ⟨some d, .call { callee := .builtin .copy, args := [x, y].toArray, argTypes := [t, xt].toArray }, ty, pos, after, g⟩).run P w = .ok (.value (goInt m)) w' := by
    simp [execOp, resolve, invoke, builtin, he.eval hx, he.eval hy, hrun]
  rw [e1]
  exact hK _ _ _ _ (he.put _ hd) hh hxt hk
end Go.Proofs.YtomijhgicennbaaGreat
namespace Go.Proofs.YtomijhgicennbaaGreat
open Go
set_option maxHeartbeats 4000000
set_option linter.unusedSimpArgs false
set_option linter.unusedVariables false
set_option maxRecDepth 20000
theorem cells_bytes {g : FH} {b o : Nat} {h : Hash} (hc_ : CellsAt g b o (hc h)) : RdBytes g (.slice (some ⟨b, o, none⟩) 32 32) h.l :=
  ⟨by simp [h.h], some ⟨b, o, none⟩, 32, by rw [h.h], .inr ⟨b, o, rfl, hc_, by rw [h.h]; exact Nat.le_refl _⟩⟩
theorem cellsAt_cel {b : Nat} {t : TypeId} {cs : List Value} {r : Res} (h : cel b t cs r) : CellsAt (fun b => (r b).map (·.2)) b 0 cs := by
  unfold cel blk at h
  refine ⟨cs.toArray, t, (0, 0), by simp [h], fun j v hj => ?_⟩
  simpa using hj
theorem CellsAt.sub8 {a r : Res} {b o : Nat} {cs : List Value} (hle : ∀ b x, a b = some x → r b = some x) (h : CellsAt (fun b => (a b).map (·.2)) b o cs) : CellsAt (fun b => (r b).map (·.2)) b o cs :=
  CellsAt.mono b o cs _ _ (fun b o hb => by
    cases hx : a b with
    | none => rw [hx] at hb; cases hb
    | some y => rw [hx] at hb; rw [hle b y hx]; exact hb) h
theorem Own1.wr {w : Nat} {bs : List UInt8} : Own1 (wrA w bs) := fun r hr => by
  unfold wrA exH starH at hr ⊢
  obtain ⟨x, h⟩ := hr
  exact ⟨x, OwnL.cons Own1.cel (OwnL.cons Own1.row OwnL.nil) r h⟩
/-- A digest within a cell is laid. -/
theorem raw_cel (wb : Nat) (bs : List UInt8) (cb o : Nat) (t : TypeId) (A B : List Value) (h : Hash) (hA : A.length = o) (hl : bs.length ≤ 1000000000) :
    Trip Tryz.prog 129 [vp wb 0, .slice (some ⟨cb, o, none⟩) 32 32] [cel cb t (A ++ (hc h ++ B)), wrA wb bs]
      (fun r l => r = .tuple #[] ∧ l = [cel cb t (A ++ (hc h ++ B)), wrA wb (bs ++ h.l)]) := by
  have h0 := raw_ok wb bs (.slice (some ⟨cb, o, none⟩) 32 32) h.l (by rw [h.h]; omega)
  have h1 : Trip Tryz.prog 129 [vp wb 0, .slice (some ⟨cb, o, none⟩) 32 32] (fz (fun g => RdBytes g (.slice (some ⟨cb, o, none⟩) 32 32) h.l) :: [wrA wb bs])
      (fun r l => r = .tuple #[] ∧ l = [wrA wb (bs ++ h.l)]) := by
    refine Trip.gh Gk (Trip.via (rest := []) h0 Tk.rfl_ ?_)
    rintro r l ⟨rfl, rfl⟩
    exact ⟨_, ⟨rfl, rfl⟩, Gk⟩
  have h2 := Trip.lend (own := [cel cb t (A ++ (hc h ++ B))]) h1 (fun r hr => by
    obtain ⟨r1, r2, hj, h1, _⟩ := hr
    have h3 := CellsAt.sub8 (fun b y hb => hj.left hb) (cellsAt_cel h1)
    have h4 := CellsAt.sub h3
    rw [Nat.zero_add, hA] at h4
    exact cells_bytes h4) (by rintro v l ⟨rfl, rfl⟩; exact OwnL.cons Own1.wr OwnL.nil)
  refine Trip.mono h2 ?_
  rintro r l ⟨l', ⟨rfl, rfl⟩, rfl⟩
  exact ⟨rfl, rfl⟩
theorem voteC_sum_ (v : Vote) : voteC v = [vi v.kind, vi v.slot, vi v.view] ++ (hc v.sum ++ ([vi v.from_] ++ hc v.tag)) := by simp [voteC]
theorem voteC_tag_ (v : Vote) : voteC v = ([vi v.kind, vi v.slot, vi v.view] ++ hc v.sum ++ [vi v.from_]) ++ (hc v.tag ++ []) := by simp [voteC]
theorem voteC_from (v : Vote) : (voteC v)[35]? = some (vi v.from_) := by
  rw [voteC, List.getElem?_append_right (by simp), List.getElem?_append_right (by simp)]
  simp
theorem layVote_ok (wb : Nat) (bs : List UInt8) (v : Vote) (hl : bs.length ≤ 100000000) :
    Trip Tryz.prog 126 [vp wb 0, .agg (voteC v).toArray] [wrA wb bs] (fun r l => r = .tuple #[] ∧ l = [wrA wb (bs ++ voteAll v)]) := by
  have h35 := voteC_from v
  have k1 := numsB_len [v.kind, v.slot, v.view]
  have k2 := numsB_len [v.from_]
  simp only [List.length_cons, List.length_nil] at k1 k2
  have n1 : ∀ nb, Trip Tryz.prog 123 [vp wb 0, .slice (some ⟨nb, 0, none⟩) 3 3] [wrA wb bs, cel nb 3 [vi v.kind, vi v.slot, vi v.view]] (fun r l => r = .tuple #[] ∧ l = [wrA wb (bs ++ numsB [v.kind, v.slot, v.view])]) := fun nb => nums_ok wb nb bs [v.kind, v.slot, v.view] (by simp; omega)
  have n2 : ∀ cb, Trip Tryz.prog 129 [vp wb 0, .slice (some ⟨cb, 3, none⟩) 32 32] [cel cb 44 (voteC v), wrA wb (bs ++ numsB [v.kind, v.slot, v.view])] (fun r l => r = .tuple #[] ∧ l = [cel cb 44 (voteC v), wrA wb (bs ++ numsB [v.kind, v.slot, v.view] ++ v.sum.l)]) := fun cb => by
    rw [voteC_sum_]
    exact raw_cel wb _ cb 3 44 [vi v.kind, vi v.slot, vi v.view] ([vi v.from_] ++ hc v.tag) v.sum rfl (by rw [List.length_append]; omega)
  have n3 : ∀ nb, Trip Tryz.prog 123 [vp wb 0, .slice (some ⟨nb, 0, none⟩) 1 1] [wrA wb (bs ++ numsB [v.kind, v.slot, v.view] ++ v.sum.l), cel nb 3 [vi v.from_]] (fun r l => r = .tuple #[] ∧ l = [wrA wb (bs ++ numsB [v.kind, v.slot, v.view] ++ v.sum.l ++ numsB [v.from_])]) := fun nb => nums_ok wb nb _ [v.from_] (by simp only [List.length_append, v.sum.h, List.length_cons, List.length_nil]; omega)
  have n4 : ∀ cb, Trip Tryz.prog 129 [vp wb 0, .slice (some ⟨cb, 36, none⟩) 32 32] [cel cb 44 (voteC v), wrA wb (bs ++ numsB [v.kind, v.slot, v.view] ++ v.sum.l ++ numsB [v.from_])] (fun r l => r = .tuple #[] ∧ l = [cel cb 44 (voteC v), wrA wb (bs ++ voteAll v)]) := fun cb => by
    have e : bs ++ voteAll v = bs ++ numsB [v.kind, v.slot, v.view] ++ v.sum.l ++ numsB [v.from_] ++ v.tag.l := by simp [voteAll, voteB]
    rw [e, voteC_tag_]
    exact raw_cel wb _ cb 36 44 _ [] v.tag (by simp) (by simp only [List.length_append, v.sum.h]; omega)
  refine Trip.of_body Tryz.func126 rfl Tryz.ntmps126 Tryz.results126 rfl ?_
  refine Wsr ?_
  (refine WpL.step (Stp.boxV rfl (VC.ag _) rfl ?_); intro nb2)
  refine Lnt (Wsr (Ls (Rdo.move rfl) (Ls (Rdo.fieldAddr0 rfl) (Ls (Rdo.load rfl (Lds.one rfl)) (Ls (Rdo.fieldAddr0 rfl) (Ls (Rdo.load rfl (Lds.one rfl)) (Ls (Rdo.fieldAddr0 rfl) (Ls (Rdo.load rfl (Lds.one rfl)) ?_))))))))
  (refine WpL.step (Stp.sliceV rfl rfl (VCs.cons (VC.i _ _) (by first | rfl | assumption | (simp <;> done)) (VCs.cons (VC.i _ _) (by first | rfl | assumption | (simp <;> done)) (VCs.cons (VC.i _ _) (by first | rfl | assumption | (simp <;> done)) VCs.nil))) (by simp only [List.cons_append, List.nil_append, List.append_nil]; exact rfl) rfl rfl ?_); intro nb14)
  refine WpL.step (Sc (n1 _) rfl ?_)
  rintro _ _ ⟨rfl, rfl⟩
  refine Ll ?_
  refine Lnt (Wsr (Ls (Rdo.move rfl) (Ls (Rdo.fieldAddr0 rfl) (Ls (Rdo.slArr rfl) ?_))))
  refine WpL.step (Sc (n2 _) rfl ?_)
  rintro _ _ ⟨rfl, rfl⟩
  refine Ll ?_
  refine Lnt (Wsr (Ls (Rdo.move rfl) (Ls (Rdo.fieldAddr0 rfl) ?_)))
  refine Ls (Rdo.load rfl (Lds.one (by assumption))) ?_
  (refine WpL.step (Stp.sliceV rfl rfl (VCs.cons (VC.i _ _) (by first | rfl | assumption | (simp <;> done)) VCs.nil) (by simp only [List.cons_append, List.nil_append, List.append_nil]; exact rfl) rfl rfl ?_); intro nb35)
  refine WpL.step (Sc (n3 _) rfl ?_)
  rintro _ _ ⟨rfl, rfl⟩
  refine Ll ?_
  refine Lnt (Wp.region (Ls (Rdo.move rfl) (Ls (Rdo.fieldAddr0 rfl) (Ls (Rdo.slArr rfl) ?_))))
  refine WpL.step (Sc (n4 _) rfl ?_)
  rintro _ _ ⟨rfl, rfl⟩
  refine Ll ?_
  refine WpL.nil ?_
  refine Ret.end_ ResV.nil Gk ⟨rfl, rfl⟩
end Go.Proofs.YtomijhgicennbaaGreat
namespace Go.Proofs.YtomijhgicennbaaGreat
open Go
set_option maxHeartbeats 4000000
set_option linter.unusedSimpArgs false
set_option linter.unusedVariables false
set_option maxRecDepth 20000
theorem votesC_app (a b : List Vote) : votesC (a ++ b) = votesC a ++ votesC b := by simp [votesC]
theorem votesC_cons (a : Vote) (b : List Vote) : votesC (a :: b) = voteC a ++ votesC b := by simp [votesC]
theorem votesC_one (a : Vote) : votesC [a] = voteC a := by simp [votesC]
theorem votesC_split {vs : List Vote} {i : Nat} {v : Vote} (h : vs[i]? = some v) : votesC vs = votesC (vs.take i) ++ (voteC v ++ votesC (vs.drop (i + 1))) := by
  obtain ⟨h1, rfl⟩ := List.getElem?_eq_some_iff.1 h
  rw [← votesC_cons, ← votesC_app, ← List.drop_eq_getElem_cons h1, List.take_append_drop]
theorem votesC_takeLen {vs : List Vote} {i : Nat} {v : Vote} (h : vs[i]? = some v) : (votesC (vs.take i)).length = i * 68 := by
  have h1 := (List.getElem?_eq_some_iff.1 h).1
  rw [votesC_length, List.length_take]
  congr 1
  omega
theorem votesC_field {vs : List Vote} {i f : Nat} {v : Vote} {u : Value} (h : vs[i]? = some v) (hf : (voteC v)[f]? = some u) : (votesC vs)[i * 68 + f]? = some u := by
  have h1 := (List.getElem?_eq_some_iff.1 hf).1
  rw [votesC_split h, List.getElem?_append_right (by rw [votesC_takeLen h]; omega), votesC_takeLen h, Nat.add_sub_cancel_left, List.getElem?_append_left h1]
  exact hf
theorem Lds.rowV {P : Program} {l : List HP} {t ty : TypeId} {n cap b o i : Nat} {vs : List Vote} {v : Vote} [ha : AG P ty true] [hz : SZ P ty 68] (hx : vs[i]? = some v) :
    Lds P (rowA t 68 (.slice (some ⟨b, o, none⟩) n cap) n (votesC vs) :: l) ⟨b, o + i * 68, none⟩ ty (.agg (voteC v).toArray) :=
  Lds.row (votesC_split hx) (votesC_takeLen hx) (voteC_length v)
theorem Lds.fzV {P : Program} {l : List HP} {ty : TypeId} {n cap b o i : Nat} {vs : List Vote} {v : Vote} [ha : AG P ty true] [hz : SZ P ty 68] (hx : vs[i]? = some v) :
    Lds P (fz (fun g => RdRow g 68 (.slice (some ⟨b, o, none⟩) n cap) n (votesC vs)) :: l) ⟨b, o + i * 68, none⟩ ty (.agg (voteC v).toArray) :=
  Lds.fzN (votesC_split hx) (votesC_takeLen hx) (voteC_length v)
/-- A cell of a frozen element. -/
theorem Lds.fzF {P : Program} {l : List HP} {ty : TypeId} {sz n b o c i f : Nat} {xs : List Value} {v : Value} [ha : AG P ty false] (hx : xs[i * sz + f]? = some v) :
    Lds P (fz (fun g => RdRow g sz (.slice (some ⟨b, o, none⟩) n c) n xs) :: l) ⟨b, o + i * sz + f, none⟩ ty v := by
  unfold Lds
  intro F w hl
  have := fzrow_sees hl _ v hx
  rw [← Nat.add_assoc] at this
  simp [Instr.loadAt, Instr.sureAddr, loadVar, ha.run, this]
theorem Lds.fzFV {P : Program} {l : List HP} {ty : TypeId} {n b o c i f : Nat} {vs : List Vote} {v : Vote} {u : Value} [ha : AG P ty false] (hx : vs[i]? = some v) (hf : (voteC v)[f]? = some u) :
    Lds P (fz (fun g => RdRow g 68 (.slice (some ⟨b, o, none⟩) n c) n (votesC vs)) :: l) ⟨b, o + i * 68 + f, none⟩ ty u := Lds.fzF (votesC_field hx hf)
theorem Sts.rowV {P : Program} {l : List HP} {t : TypeId} {n cap b o i : Nat} {vs : List Vote} {u : Vote} (hi : i < vs.length) :
    Sts P (rowA t 68 (.slice (some ⟨b, o, none⟩) n cap) n (votesC vs) :: l) ⟨b, o + i * 68, none⟩ (voteC u) (rowA t 68 (.slice (some ⟨b, o, none⟩) n cap) n (votesC (vs.set i u)) :: l) := by
  have hx : vs[i]? = some vs[i] := List.getElem?_eq_getElem hi
  have h := Sts.rowP (P := P) (l := l) (t := t) (sz := 68) (n := n) (cap := cap) (b := b) (o := o) (votesC_split hx) (votesC_takeLen hx) (by rw [voteC_length, voteC_length]) (oneCells_voteC u)
  rw [show votesC (vs.set i u) = votesC (vs.take i) ++ (voteC u ++ votesC (vs.drop (i + 1))) by rw [List.set_eq_take_append_cons_drop, if_pos hi, votesC_app, votesC_cons]]
  exact h
end Go.Proofs.YtomijhgicennbaaGreat
namespace Go.Proofs.YtomijhgicennbaaGreat
open Go
set_option maxHeartbeats 4000000
set_option linter.unusedSimpArgs false
set_option linter.unusedVariables false
set_option maxRecDepth 20000
abbrev cmpF : Value := .func (.func 152) #[] #[]
def okFrom (v : Vote) : Prop := 0 ≤ v.from_ ∧ v.from_ ≤ 9
theorem cmp_ok (a b : Vote) (ha : okFrom a) (hb : okFrom b) : Trip Tryz.prog 152 [.agg (voteC a).toArray, .agg (voteC b).toArray] [] (fun r l => r = vi (a.from_ - b.from_) ∧ l = []) := by
  have h1 := voteC_from a
  have h2 := voteC_from b
  unfold okFrom at ha hb
  refine Trip.of_body Tryz.func152 rfl Tryz.ntmps152 Tryz.results152 rfl ?_
  refine Wsr ?_
  (refine WpL.step (Stp.boxV rfl (VC.ag _) rfl ?_); intro nb2)
  (refine WpL.step (Stp.boxV rfl (VC.ag _) rfl ?_); intro nb3)
  refine Ls (Rdo.assign rfl) (Lnt (Wsr (Ls (Rdo.fieldAddr0 rfl) ?_)))
  refine Ls (Rdo.load rfl (Lds.next (Lds.one (by assumption)))) ?_
  refine Ls (Rdo.fieldAddr0 rfl) ?_
  refine Ls (Rdo.load rfl (Lds.one (by assumption))) ?_
  refine Ls (Rdo.sub64 rfl rfl (by omega)) ?_
  refine Ls (Rdo.assign rfl) (Lnt (Wp.ret ?_))
  refine Rt (ResV.tmp rfl ResV.nil) ⟨rfl, rfl⟩
abbrev RiseV (l : List Vote) : Prop := l.Pairwise fun a b => a.from_ ≤ b.from_
abbrev srE (v : Value) (N : Nat) (i : Nat) : Env := [(0, v), (1, vi 0), (2, vi N), (3, cmpF), (8, vi i)]
abbrev srE2 (v : Value) (N : Nat) (i j : Nat) : Env := [(0, v), (1, vi 0), (2, vi N), (3, cmpF), (8, vi i), (9, vi j)]
theorem vinsertion_ok (xs : List Vote) (v : Value) (hn : xs.length ≤ 1000000) (hf : ∀ x ∈ xs, okFrom x) :
    Trip Tryz.prog 212 [v, vi 0, vi xs.length, cmpF] [rowA 44 68 v xs.length (votesC xs)]
      (fun r l => r = .tuple #[] ∧ ∃ ys : List Vote, ys.Perm xs ∧ RiseV ys ∧ l = [rowA 44 68 v xs.length (votesC ys)]) := by
  generalize hN : xs.length = N
  rw [hN] at hn
  refine Trip.of_body Tryz.func212 rfl Tryz.ntmps212 Tryz.results212 rfl ?_
  refine Wsr (Ls (Rdo.move rfl) ?_)
  refine Ls (Rdo.add64 rfl rfl (by first | omega | (dsimp only; omega))) ?_
  refine Ls (Rdo.assign rfl) (Lnt (Wp.block ?_))
  refine Wp.loopE (fun k e h => ∃ (i : Nat) (cur : List Vote), 1 ≤ i ∧ (i + k = N ∨ (k = 0 ∧ N ≤ i)) ∧ cur.Perm xs ∧ RiseV (cur.take i) ∧ e = srE v N i ∧ h = [rowA 44 68 v N (votesC cur)]) (N - 1)
    (e0 := srE v N (1 : Nat)) (l0 := [rowA 44 68 v N (votesC xs)]) (by repeat (first | exact trivial | refine ⟨rfl, ?_⟩)) (by repeat (first | exact trivial | refine ⟨rfl, ?_⟩)) Gk ⟨1, xs, by omega, by omega, List.Perm.refl _, by cases xs <;> simp, rfl, rfl⟩ ?_
  rintro k e h ⟨i, cur, hi1, hik, hperm, hsort, rfl, rfl⟩
  have hcl : cur.length = N := by rw [hperm.length_eq, hN]
  by_cases hi : i < N
  · refine Wp.get Pk.here (fun r => rowA_at i hi) ?_
    rintro ⟨b, o, cap, rfl⟩
    refine Wp.seq (Wsr (Ls (Rdo.move rfl) (Ls (Rdo.move rfl) (Ls (Rdo.lti rfl rfl) (Lnt (cK rfl (Wp.skip (Thn.n (Wp.seq (Wp.block (Wsr (Ls (Rdo.move rfl) (Ls (Rdo.assign rfl) ?_)))))))))))))
    refine Lnt (Wp.block ?_)
    obtain ⟨x, hx⟩ : ∃ x, cur[i]? = some x := ⟨cur[i]'(by omega), List.getElem?_eq_getElem (by omega)⟩
    have hox : okFrom x := hf x (hperm.mem_iff.1 (List.mem_of_getElem? hx))
    refine Wp.loopE (fun j e h => ∃ (A B : List Vote), A.length = j ∧ j + B.length = i ∧ cur.take i = A ++ B ∧ (∀ y ∈ B, x.from_ < y.from_) ∧
        e = srE2 (.slice (some ⟨b, o, none⟩) N cap) N i j ∧ h = [rowA 44 68 (.slice (some ⟨b, o, none⟩) N cap) N (votesC (A ++ x :: (B ++ cur.drop (i + 1))))]) i
      (e0 := srE2 (.slice (some ⟨b, o, none⟩) N cap) N i i) (l0 := [rowA 44 68 (.slice (some ⟨b, o, none⟩) N cap) N (votesC cur)]) (by repeat (first | exact trivial | refine ⟨rfl, ?_⟩)) (by repeat (first | exact trivial | refine ⟨rfl, ?_⟩)) Gk
      ⟨cur.take i, [], by simp; omega, by simp, by simp, by simp, rfl, by
        have e1 : cur.take i ++ x :: ([] ++ cur.drop (i + 1)) = cur := by
          obtain ⟨hi', rfl⟩ := List.getElem?_eq_some_iff.1 hx
          rw [List.nil_append, ← List.drop_eq_getElem_cons hi', List.take_append_drop]
        rw [e1]⟩ ?_
    rintro j e h ⟨A, B, hA, hj, htake, hlt, rfl, rfl⟩
    have hperm2 : (A ++ x :: (B ++ cur.drop (i + 1))).Perm xs := by
      refine List.Perm.trans ?_ hperm
      obtain ⟨hi', rfl⟩ := List.getElem?_eq_some_iff.1 hx
      have e1 : cur = cur.take i ++ cur[i] :: cur.drop (i + 1) := by rw [← List.drop_eq_getElem_cons hi', List.take_append_drop]
      conv => rhs; rw [e1, htake]
      simp only [List.append_assoc]
      exact List.Perm.append_left A List.perm_middle.symm
    have hdone : (∀ y ∈ A, y.from_ ≤ x.from_) → RiseV ((A ++ x :: (B ++ cur.drop (i + 1))).take (i + 1)) := by
      intro hAx
      have e1 : (A ++ x :: (B ++ cur.drop (i + 1))).take (i + 1) = A ++ x :: B := by
        rw [show A ++ x :: (B ++ cur.drop (i + 1)) = (A ++ x :: B) ++ cur.drop (i + 1) by simp]
        exact List.take_left' (by simp; omega)
      rw [e1]
      unfold RiseV at hsort ⊢
      rw [htake, List.pairwise_append] at hsort
      obtain ⟨h1, h2, h3⟩ := hsort
      rw [List.pairwise_append]
      refine ⟨h1, List.pairwise_cons.2 ⟨fun y hy => Int.le_of_lt (hlt y hy), h2⟩, fun a ha b hb => ?_⟩
      rcases List.mem_cons.1 hb with rfl | hb
      · exact hAx a ha
      · exact h3 a ha b hb
    have hlen2 : (A ++ x :: (B ++ cur.drop (i + 1))).length = N := by rw [hperm2.length_eq, hN]
    rcases List.eq_nil_or_concat A with rfl | ⟨A', y, rfl⟩
    · have hj0 : j = 0 := by simpa using hA.symm
      subst hj0
      refine Wp.seq (Wp.seq ?_)
      refine Wp.draw (by kernel_rfl) ?_
      refine Qt (i := 0) rfl (Rdo.move rfl) (Qt (i := 1) rfl (Rdo.move rfl) (Qt (i := 2) rfl (Rdo.gti rfl rfl) (Qt (i := 3) rfl (Rdo.move rfl) (Qp (i := 4) rfl rfl rfl (Qp (i := 5) rfl rfl rfl (Qp (i := 6) rfl rfl rfl (Qp (i := 7) rfl rfl rfl (Qp (i := 8) rfl rfl rfl (Qp (i := 9) rfl rfl rfl (Qp (i := 10) rfl rfl rfl (Qp (i := 11) rfl rfl rfl (Qp (i := 12) rfl rfl rfl (Qp (i := 13) rfl rfl rfl ?_)))))))))))))
      refine Qp (i := 14) rfl rfl rfl (Qp (i := 15) rfl rfl rfl (Qt (i := 16) rfl (Rdo.pick_f rfl rfl) ?_))
      refine WpR.done (by kernel_rfl) ?_
      refine Thn.n ?_
      refine Wp.condF rfl ?_
      refine Wp.exit ?_
      refine Thn.x ?_
      refine Thn.x ?_
      refine Blk.here ?_
      refine Blk.n (Thn.n (Wp.region (Ls (Rdo.move rfl) ?_)))
      refine Ls (Rdo.succ rfl rfl (by omega)) ?_
      refine Ls (Rdo.assign rfl) (Lnt ?_)
      refine ⟨k - 1, _, _, by omega, ⟨i + 1, _, by omega, by omega, hperm2, hdone (by simp), rfl, rfl⟩, (by repeat (first | exact trivial | refine ⟨rfl, ?_⟩)), Gk⟩
    · obtain ⟨j', rfl⟩ : ∃ j', j = j' + 1 := ⟨A'.length, by simpa using hA.symm⟩
      have hA' : A'.length = j' := by simpa using hA
      have hoy : okFrom y := hf y (hperm2.mem_iff.1 (by simp))
      have l1 : (A'.concat y ++ x :: (B ++ cur.drop (i + 1)))[j' + 1]? = some x := by simp [hA', List.getElem?_append_right]
      have l2 : (A'.concat y ++ x :: (B ++ cur.drop (i + 1)))[j']? = some y := by simp [hA', List.getElem?_append_right]
      have hll : ((A'.concat y ++ x :: (B ++ cur.drop (i + 1))).set (j' + 1) y).length = N := by rw [List.length_set, hlen2]
      have hcut : ((A'.concat y ++ x :: (B ++ cur.drop (i + 1))).set (j' + 1) y).set j' x = A' ++ x :: (y :: B ++ cur.drop (i + 1)) := by
        subst hA'
        simp [List.set_append]
      have s1 := cmp_ok x y hox hoy
      have hjN : j' + 1 < N := by omega
      generalize hXX : A'.concat y ++ x :: (B ++ cur.drop (i + 1)) = X at *
      by_cases hxy : x.from_ - y.from_ < 0
      · refine Wp.seq (Wp.seq ?_)
        refine Wp.draw (by kernel_rfl) ?_
        refine Qt (i := 0) rfl (Rdo.move rfl) (Qt (i := 1) rfl (Rdo.move rfl) (Qt (i := 2) rfl (Rdo.gti rfl rfl) (Qt (i := 3) rfl (Rdo.move rfl) ?_)))
        refine WpR.tT 21 rfl (by first | rfl | assumption | (simp only [decide_eq_true_eq, decide_eq_false_iff_not, Bool.not_eq_true', Bool.not_eq_false', List.length_cons, List.length_nil]; first | assumption | omega) | (simp <;> done) | (simp <;> omega)) ?_
        refine Qw (i := 4) rfl rfl rfl (Rdo.move rfl) (Qw (i := 5) rfl rfl rfl (Rdo.move rfl) (Qw (i := 6) rfl rfl rfl (Rdo.move rfl) ?_))
        refine Qw (i := 7) rfl rfl rfl (Rdo.indexSlice rfl rfl (by omega)) ?_
        refine Qw (i := 9) rfl rfl rfl (Rdo.move rfl) (Qw (i := 10) rfl rfl rfl (Rdo.move rfl) ?_)
        refine Qw (i := 11) rfl rfl rfl (Rdo.pred rfl rfl (by omega)) ?_
        refine Qw (i := 12) rfl rfl rfl (Rdo.indexSlice rfl rfl (by omega)) ?_
        refine WpR.phaseL (m := 0) #[true, true, true, true, true, true, true, true, true, true, true, true, true, true, true, true, true] 5 _ rfl (by kernel_rfl) (Tk.cons Pk.here Tk.nil) ?_
        refine Aw (i := 8) rfl rfl rfl (Rdo.load rfl (Lds.rowV (by assumption))) ?_
        refine Aw (i := 13) rfl rfl rfl (Rdo.load rfl (Lds.rowV (by assumption))) ?_
        refine WpA.oneG (i := 14) rfl rfl rfl rfl (by kernel_rfl) (Stp.callv rfl (by kernel_rfl) rfl (s1) (by repeat (first | exact Tk.nil | apply Tk.cons (by repeat (first | exact Pk.here | apply Pk.next)))) rfl ?_)
        rintro _ _ ⟨rfl, rfl⟩
        refine WpA.lst (by simp only [List.cons_append, List.nil_append]; exact rfl) ?_
        refine Aw (i := 15) rfl rfl rfl (Rdo.lti rfl rfl) (At (i := 16) rfl (Rdo.pick_t rfl rfl) ?_)
        refine WpA.stop (by kernel_rfl) ?_
        refine Ql ?_
        refine WpR.done (by kernel_rfl) ?_
        refine Thn.n (cK rfl (Wp.skip (Thn.n (Wp.seq (Wp.block ?_)))))
        refine Wp.draw (by kernel_rfl) ?_
        refine Qt (i := 0) rfl (Rdo.move rfl) (Qt (i := 1) rfl (Rdo.move rfl) (Qt (i := 2) rfl (Rdo.move rfl) (Qt (i := 3) rfl (Rdo.move rfl) ?_)))
        refine Qt (i := 4) rfl (Rdo.pred rfl rfl (by omega)) ?_
        refine Qt (i := 5) rfl (Rdo.move rfl) (Qt (i := 6) rfl (Rdo.move rfl) ?_)
        refine Qt (i := 7) rfl (Rdo.pred rfl rfl (by omega)) ?_
        refine Qt (i := 8) rfl (Rdo.indexSlice rfl rfl (by omega)) ?_
        refine Qt (i := 10) rfl (Rdo.move rfl) (Qt (i := 11) rfl (Rdo.move rfl) ?_)
        refine Qt (i := 12) rfl (Rdo.indexSlice rfl rfl (by omega)) ?_
        refine WpR.phaseL (m := 4) #[true, true, true, true, true, true, true, true, true, true, true, true, true, true, false, false, false, false] 2 _ rfl (by kernel_rfl) Tk.rfl_ ?_
        refine At (i := 9) rfl (Rdo.load rfl (Lds.rowV (by assumption))) ?_
        refine At (i := 13) rfl (Rdo.load rfl (Lds.rowV (by assumption))) ?_
        refine WpA.stop (by kernel_rfl) ?_
        refine WpR.lst (by simp only [List.cons_append, List.nil_append, List.append_nil]; exact rfl) ?_
        refine Qt (i := 14) rfl (Rdo.indexSlice rfl rfl (by omega)) ?_
        refine Qo (i := 15) rfl (St rfl rfl (VC.ag _) ?_)
        refine Qt (i := 16) rfl (Rdo.indexSlice rfl rfl (by omega)) ?_
        refine Qo (i := 17) rfl (St rfl rfl (VC.ag _) ?_)
        refine WpR.done (by kernel_rfl) ?_
        refine Blk.n (Thn.n (Wp.region (Ls (Rdo.move rfl) ?_)))
        refine Ls (Rdo.pred rfl rfl (by omega)) ?_
        refine Ls (Rdo.assign rfl) (Lnt ?_)
        refine ⟨j', _, _, by omega, ⟨A', y :: B, hA', by simp; omega, by rw [htake]; simp, ?_, rfl, rfl⟩, (by repeat (first | exact trivial | refine ⟨rfl, ?_⟩)), ?_⟩
        · intro z hz
          rcases List.mem_cons.1 hz with rfl | hz
          · omega
          · exact hlt z hz
        · rw [hcut]
          exact Gk
      · refine Wp.seq (Wp.seq ?_)
        refine Wp.draw (by kernel_rfl) ?_
        refine Qt (i := 0) rfl (Rdo.move rfl) (Qt (i := 1) rfl (Rdo.move rfl) (Qt (i := 2) rfl (Rdo.gti rfl rfl) (Qt (i := 3) rfl (Rdo.move rfl) ?_)))
        refine WpR.tT 21 rfl (by first | rfl | assumption | (simp only [decide_eq_true_eq, decide_eq_false_iff_not, Bool.not_eq_true', Bool.not_eq_false', List.length_cons, List.length_nil]; first | assumption | omega) | (simp <;> done) | (simp <;> omega)) ?_
        refine Qw (i := 4) rfl rfl rfl (Rdo.move rfl) (Qw (i := 5) rfl rfl rfl (Rdo.move rfl) (Qw (i := 6) rfl rfl rfl (Rdo.move rfl) ?_))
        refine Qw (i := 7) rfl rfl rfl (Rdo.indexSlice rfl rfl (by omega)) ?_
        refine Qw (i := 9) rfl rfl rfl (Rdo.move rfl) (Qw (i := 10) rfl rfl rfl (Rdo.move rfl) ?_)
        refine Qw (i := 11) rfl rfl rfl (Rdo.pred rfl rfl (by omega)) ?_
        refine Qw (i := 12) rfl rfl rfl (Rdo.indexSlice rfl rfl (by omega)) ?_
        refine WpR.phaseL (m := 0) #[true, true, true, true, true, true, true, true, true, true, true, true, true, true, true, true, true] 5 _ rfl (by kernel_rfl) (Tk.cons Pk.here Tk.nil) ?_
        refine Aw (i := 8) rfl rfl rfl (Rdo.load rfl (Lds.rowV (by assumption))) ?_
        refine Aw (i := 13) rfl rfl rfl (Rdo.load rfl (Lds.rowV (by assumption))) ?_
        refine WpA.oneG (i := 14) rfl rfl rfl rfl (by kernel_rfl) (Stp.callv rfl (by kernel_rfl) rfl (s1) (by repeat (first | exact Tk.nil | apply Tk.cons (by repeat (first | exact Pk.here | apply Pk.next)))) rfl ?_)
        rintro _ _ ⟨rfl, rfl⟩
        refine WpA.lst (by simp only [List.cons_append, List.nil_append]; exact rfl) ?_
        refine Aw (i := 15) rfl rfl rfl (Rdo.lti rfl rfl) (At (i := 16) rfl (Rdo.pick_t rfl rfl) ?_)
        refine WpA.stop (by kernel_rfl) ?_
        refine Ql ?_
        refine WpR.done (by kernel_rfl) ?_
        refine Thn.n (cL rfl ?_)
        refine Wp.exit ?_
        refine Thn.x ?_
        refine Thn.x ?_
        refine Blk.here ?_
        refine Blk.n (Thn.n (Wp.region (Ls (Rdo.move rfl) ?_)))
        refine Ls (Rdo.succ rfl rfl (by omega)) ?_
        refine Ls (Rdo.assign rfl) (Lnt ?_)
        refine ⟨k - 1, _, _, by omega, ⟨i + 1, _, by omega, by omega, hperm2, hdone ?_, rfl, rfl⟩, (by repeat (first | exact trivial | refine ⟨rfl, ?_⟩)), Gk⟩
        intro z hz
        have hz' : z ∈ A' ∨ z = y := by simpa using hz
        unfold RiseV at hsort
        rw [htake, List.pairwise_append] at hsort
        obtain ⟨h1, h2, h3⟩ := hsort
        rw [List.concat_eq_append, List.pairwise_append] at h1
        rcases hz' with hz' | rfl
        · have := h1.2.2 z hz' y (by simp)
          omega
        · omega
  · refine Wp.seq (Wsr (Ls (Rdo.move rfl) (Ls (Rdo.move rfl) (Ls (Rdo.lti rfl rfl) (Lnt (cL rfl ?_))))))
    refine Wp.exit ?_
    refine Thn.x ?_
    refine Thn.x ?_
    refine Blk.here ?_
    refine Ret.end_ ResV.nil Gk ⟨rfl, cur, hperm, ?_, rfl⟩
    rwa [List.take_of_length_le (by omega)] at hsort
end Go.Proofs.YtomijhgicennbaaGreat
namespace Go.Proofs.YtomijhgicennbaaGreat
open Go
set_option maxHeartbeats 4000000
set_option linter.unusedSimpArgs false
set_option linter.unusedVariables false
set_option maxRecDepth 20000
/-- A piece of frozen bytes. -/
theorem RdBytes.drop_ {g : FH} {b o n cap l : Nat} {bs : List UInt8} (h : RdBytes g (.slice (some ⟨b, o, none⟩) n cap) bs) (hl : l ≤ n) (hc : n ≤ cap) : RdBytes g (.slice (some (slA b o l cap 1)) (n - l) (cap - l)) (bs.drop l) := by
  obtain ⟨h1, a, c, h2, h3⟩ := h
  simp only [Value.slice.injEq] at h2
  obtain ⟨h21, h22, h23⟩ := h2
  subst h21 h22 h23
  refine ⟨by simp [bytesC], some (slA b o l cap 1), cap - l, by simp, ?_⟩
  by_cases h0 : (bs.drop l).length = 0
  · exact .inl h0
  right
  rcases h3 with h3 | ⟨b', o', h4, ⟨arr, t, fr, h5, h6⟩, -⟩
  · exfalso
    simp at h0
    omega
  simp only [Option.some.injEq, Addr.mk.injEq, and_true] at h4
  obtain ⟨rfl, rfl⟩ := h4
  have hne : cap ≠ l := by simp at h0; omega
  refine ⟨b, o + l * 1, by rw [slA_ne hne], ⟨arr, t, fr, h5, fun j v hj => ?_⟩, by rw [List.length_drop]; omega⟩
  have h7 : (bytesC bs)[l + j]? = some v := by
    rw [bytesC, List.map_drop, List.getElem?_drop] at hj
    exact hj
  have := h6 (l + j) v h7
  rwa [show o + l * 1 + j = o + (l + j) by omega]
/-- Blocks of bytes taken, one after the other. -/
def dBlocks (K : List Int) (s : V8) (bs : List UInt8) : Nat → V8
  | 0 => s
  | j + 1 => dBlock K (dBlocks K s bs j) (bs.drop (64 * j))
theorem dBlocks_zero (K : List Int) (s : V8) (bs : List UInt8) : dBlocks K s bs 0 = s := rfl
theorem dBlocks_succ (K : List Int) (s : V8) (bs : List UInt8) (j : Nat) : dBlocks K s bs (j + 1) = dBlock K (dBlocks K s bs j) (bs.drop (64 * j)) := rfl
def dS8 : V8 := ⟨0x6a09e667, 0xbb67ae85, 0x3c6ef372, 0xa54ff53a, 0x510e527f, 0x9b05688c, 0x1f83d9ab, 0x5be0cd19⟩
/-- What is left, laid out; and its end. -/
def dLast (rest : List UInt8) : List UInt8 := (rest ++ List.replicate (128 - rest.length) 0).set rest.length 128
def dEnd (rest : List UInt8) : Nat := if 56 ≤ rest.length then 128 else 64
def dBits (n : Nat) : Int := IntKind.u64.wrap (IntKind.u64.wrap (n : Int) * 2 ^ Min.min (3 : Int).toNat IntKind.u64.bits)
def dDigit (n i : Nat) : Int := IntKind.u8.wrap (dBits n / 2 ^ Min.min ((8 * i : Nat) : Int).toNat IntKind.u64.bits)
def dTail (n : Nat) (rest : List UInt8) : Nat → List UInt8
  | 0 => dLast rest
  | i + 1 => (dTail n rest i).set (dEnd rest - 1 - i) (UInt8.ofNat (dDigit n i).toNat)
def dByte (x : Int) (sh : Int) : Int := IntKind.u8.wrap (x / 2 ^ Min.min sh.toNat IntKind.u32.bits)
def dOut (s : List Int) : Nat → List Int
  | 0 => List.replicate 32 0
  | i + 1 => ((((dOut s i).set (4 * i) (dByte (s.getD i 0) 24)).set (4 * i + 1) (dByte (s.getD i 0) 16)).set (4 * i + 2) (dByte (s.getD i 0) 8)).set (4 * i + 3) (IntKind.u8.wrap (s.getD i 0))
/-- SHA-256, as the program computes it. -/
def dSum (bs : List UInt8) : List Int :=
  let q := bs.length / 64
  let rest := bs.drop (64 * q)
  let s := dBlocks dK dS8 bs q
  dOut (dBlocks dK s (dTail bs.length rest 8) (dEnd rest / 64)).l 8
theorem dTail_len (n : Nat) (rest : List UInt8) (h : rest.length ≤ 128) (i : Nat) : (dTail n rest i).length = 128 := by
  induction i with
  | zero => simp [dTail, dLast]; omega
  | succ i ih => simp [dTail, ih]
theorem dOut_len (s : List Int) (i : Nat) : (dOut s i).length = 32 := by
  induction i with
  | zero => simp [dOut]
  | succ i ih => simp [dOut, ih]
theorem u8w (x : Int) : IntKind.u8.wrap x = ((UInt8.ofNat (IntKind.u8.wrap x).toNat).toNat : Int) := by
  have h0 := wrap_u8_nonneg x
  have h1 : IntKind.u8.wrap x < 256 := by simp [IntKind.wrap, IntKind.bits, IntKind.signed]; omega
  rw [UInt8.toNat_ofNat']
  omega
end Go.Proofs.YtomijhgicennbaaGreat
namespace Go.Proofs.YtomijhgicennbaaGreat
open Go
set_option maxHeartbeats 4000000
set_option linter.unusedSimpArgs false
set_option linter.unusedVariables false
set_option maxRecDepth 20000
theorem dK_len : dK.length = 64 := rfl
abbrev v8 (x : Int) : Value := .int .u8 x
theorem put8v (L : List Int) (i : Nat) (x : Int) (h : i < L.length) : lput (L.map v8) (0 + i * 1) [v8 x] = (L.set i x).map v8 := by
  rw [show 0 + i * 1 = i by omega, lput_step _ _ _ _ (by simpa using h), lput_nil, List.map_set]
theorem dOut_zero (s : List Int) : dOut s 0 = List.replicate 32 0 := rfl
theorem dOut_succ (s : List Int) (i : Nat) : dOut s (i + 1) = ((((dOut s i).set (4 * i) (dByte (s.getD i 0) 24)).set (4 * i + 1) (dByte (s.getD i 0) 16)).set (4 * i + 2) (dByte (s.getD i 0) 8)).set (4 * i + 3) (IntKind.u8.wrap (s.getD i 0)) := rfl
theorem lput_bytes (R : List UInt8) (h : R.length ≤ 128) : lput (List.replicate 128 (.int .u8 0)) 0 (bytesC R) = bytesC (R ++ List.replicate (128 - R.length) 0) := by
  have h1 : (bytesC R).length = R.length := bytesC_length R
  rw [lput_eq _ _ _ (by rw [h1, List.length_replicate]; omega), h1]
  simp only [List.take_zero, List.nil_append, Nat.zero_add, List.drop_replicate, bytesC, List.map_append, List.map_replicate]
  rfl
theorem put8 (L : List UInt8) (i : Nat) (b : UInt8) (h : i < L.length) : lput (bytesC L) (0 + i * 1) [.int .u8 b.toNat] = bytesC (L.set i b) := by
  rw [show 0 + i * 1 = i by omega, lput_step _ _ _ _ (by rw [bytesC_length]; exact h), lput_nil]
  simp [bytesC, u8c, List.map_set]
theorem dTail_zero (n : Nat) (R : List UInt8) : dTail n R 0 = dLast R := rfl
theorem dTail_succ (n : Nat) (R : List UInt8) (i : Nat) : dTail n R (i + 1) = (dTail n R i).set (dEnd R - 1 - i) (UInt8.ofNat (dDigit n i).toNat) := rfl
theorem RdRow.sub7 {a r : Res} {sz n : Nat} {v : Value} {xs : List Value} (hle : ∀ b x, a b = some x → r b = some x) (h : RdRow (fun b => (a b).map (·.2)) sz v n xs) : RdRow (fun b => (r b).map (·.2)) sz v n xs :=
  RdRow.mono _ _ _ _ _ _ (fun b o hb => by
    cases hx : a b with
    | none => rw [hx] at hb; cases hb
    | some y => rw [hx] at hb; rw [hle b y hx]; exact hb) h
/-- A block of owned bytes is taken in. -/
theorem take_own (Kl : List Int) (hKl : Kl.length = 64) (s kb nl : Nat) (S : V8) (T : List UInt8) (hT : T.length = 128) (o : Nat) (ho : o ≤ 64) :
    Trip Tryz.prog 76 [vp s 0, .slice (some (slA nl 0 o 128 1)) (128 - o) (128 - o), vp kb 0] [cel nl 140 (bytesC T), cel s 135 S.C, cel kb 136 (Kl.map v32)]
      (fun r l => r = .tuple #[] ∧ l = [cel nl 140 (bytesC T), cel s 135 (dBlock Kl S (T.drop o)).C, cel kb 136 (Kl.map v32)]) := by
  have hd : (T.drop o).length = 128 - o := by simp [hT]
  have h0 := take_ok Kl hKl s kb S (.slice (some (slA nl 0 o 128 1)) (128 - o) (128 - o)) (T.drop o) (by omega) (by omega)
  have h1 : Trip Tryz.prog 76 [vp s 0, .slice (some (slA nl 0 o 128 1)) (128 - o) (128 - o), vp kb 0] (fz (fun g => RdBytes g (.slice (some (slA nl 0 o 128 1)) (128 - o) (128 - o)) (T.drop o)) :: [cel s 135 S.C, cel kb 136 (Kl.map v32)])
      (fun r l => r = .tuple #[] ∧ l = [cel s 135 (dBlock Kl S (T.drop o)).C, cel kb 136 (Kl.map v32)]) := by
    refine Trip.gh Gk (Trip.via (rest := []) h0 Tk.rfl_ ?_)
    rintro r l ⟨rfl, rfl⟩
    exact ⟨_, ⟨rfl, rfl⟩, Gk⟩
  have h2 := Trip.lend (own := [cel nl 140 (bytesC T)]) h1 (fun r hr => by
    obtain ⟨r1, r2, hj, h1, _⟩ := hr
    have h3 := row_iced (rowA_cel (n := 128) (sz := 1) (by rw [bytesC_length, hT]) r1 h1)
    have h4 := RdRow.sub7 (fun b y hb => hj.left hb) h3
    have h5 : RdBytes (fun b => (r b).map (·.2)) (.slice (some ⟨nl, 0, none⟩) 128 128) T := by rw [RdBytes, hT]; exact h4
    exact RdBytes.drop_ h5 (by omega) (by omega)) (by rintro v l ⟨rfl, rfl⟩; exact OwnL.cons Own1.cel (OwnL.cons Own1.cel OwnL.nil))
  refine Trip.mono h2 ?_
  rintro r l ⟨l', ⟨rfl, rfl⟩, rfl⟩
  exact ⟨rfl, rfl⟩
abbrev suM (Kl : List Int) (nl nh ns nk : Nat) (S : V8) (L : List UInt8) : List HP := [cel nl 140 (bytesC L), cel ns 135 S.C, cel nk 136 (Kl.map v32), cel nh 28 (List.replicate 32 (.int .u8 0))]
abbrev suE (a : Option Addr) (n c nh ns nk : Nat) (a' : Option Addr) (m c' : Nat) : Env := [(0, .slice a n c), (2, vp nh 0), (3, vp ns 0), (4, vp nk 0), (5, .slice a' m c')]
abbrev suL (Kl : List Int) (nh ns nk : Nat) (S : V8) (v : Value) (bs : List UInt8) : List HP := [cel ns 135 S.C, cel nk 136 (Kl.map v32), cel nh 28 (List.replicate 32 (.int .u8 0)), fz (fun g => RdBytes g v bs)]
theorem sum_ok (a : Option Addr) (c : Nat) (bs : List UInt8) (hl : bs.length ≤ 1000000000000) (hc : bs.length ≤ c) :
    Trip Tryz.prog 45 [.slice a bs.length c] [fz (fun g => RdBytes g (.slice a bs.length c) bs)]
      (fun r l => r = .agg ((dSum bs).map (Value.int .u8)).toArray ∧ l = []) := by
  obtain ⟨Z, hZ⟩ : ∃ Z, Z = dSum bs := ⟨_, rfl⟩
  rw [← hZ]
  unfold dSum at hZ
  simp only at hZ
  refine Trip.of_body Tryz.func45 rfl Tryz.ntmps45 Tryz.results45 rfl ?_
  refine Wsr ?_
  (refine WpL.step (Stp.alloc rfl ?_); intro nb2)
  refine Lnt (Wsr (Ls (Rdo.bldArr1 rfl rfl) ?_))
  (refine WpL.step (Stp.alloc rfl ?_); intro nb8)
  refine WpL.step (St rfl rfl (VC.ag _) ?_)
  refine Lnt (Wsr ?_)
  refine WpL.step (Sc (numbers_ok) rfl ?_)
  rintro _ _ ⟨rfl, rfl⟩
  refine Ll ?_
  (refine WpL.step (Stp.alloc rfl ?_); intro nb17)
  refine WpL.step (St rfl rfl (VC.ag _) ?_)
  refine Lnt (Wsr (Ls (Rdo.move rfl) (Ls (Rdo.assign rfl) (Lnt (Wp.seq (Wp.block ?_))))))
  have hKl := dK_len
  generalize dK = Kl at *
  refine Wp.loopE (fun k e h => ∃ (j : Nat) (a' : Option Addr) (c' : Nat), 64 * j + k = bs.length ∧ (bs.drop (64 * j)).length ≤ c' ∧ e = suE a bs.length c nb2 nb8 nb17 a' (bs.drop (64 * j)).length c' ∧ h = suL Kl nb2 nb8 nb17 (dBlocks Kl dS8 bs j) (.slice a' (bs.drop (64 * j)).length c') (bs.drop (64 * j))) bs.length
    (e0 := suE a bs.length c nb2 nb8 nb17 a bs.length c) (l0 := suL Kl nb2 nb8 nb17 dS8 (.slice a bs.length c) bs) (by repeat (first | exact trivial | refine ⟨rfl, ?_⟩)) (by repeat (first | exact trivial | refine ⟨rfl, ?_⟩)) Gk ⟨0, a, c, by omega, by simpa using hc, by simp, by simp [dBlocks_zero]⟩ ?_
  rintro k e h ⟨j, a', c', hjk, hc', rfl, rfl⟩
  have hdl : (bs.drop (64 * j)).length = bs.length - 64 * j := by simp
  have hnx : (bs.drop (64 * j)).length - 64 = (bs.drop (64 * (j + 1))).length := by simp; omega
  have hdd : (bs.drop (64 * j)).drop 64 = bs.drop (64 * (j + 1)) := by rw [List.drop_drop]; congr 1
  have hsucc := dBlocks_succ Kl dS8 bs j
  by_cases h64 : 64 ≤ (bs.drop (64 * j)).length
  · have h64' : ((bs.drop (64 * j)).length : Int) ≥ 64 := by omega
    generalize hR : bs.drop (64 * j) = R at *
    refine Wp.get (Pk.next (Pk.next (Pk.next Pk.here))) (row_some (by omega)) ?_
    rintro ⟨pb, po, rfl⟩
    have s1 := take_ok Kl hKl nb8 nb17 (dBlocks Kl dS8 bs j) (.slice (some ⟨pb, po, none⟩) R.length c') R (by omega) (by omega)
    refine Wp.gh (Gh.fzAlso (Ψ := fun g => RdBytes g (.slice (some (slA pb po 64 c' 1)) (R.length - 64) (c' - 64)) (R.drop 64)) (Pk.next (Pk.next (Pk.next Pk.here))) (fun g h => RdBytes.drop_ h (by omega) (by omega))) ?_
    refine Wp.seq (Wsr (Ls (Rdo.move rfl) (Ls (Rdo.lenSlice rfl) (Ls (Rdo.gei rfl rfl) (Lnt (cK rfl (Wp.skip (Thn.n (Wp.seq (Wp.block (Wp.region (Ls (Rdo.move rfl) ?_))))))))))))
    refine WpL.step (Sc (s1) rfl ?_)
    rintro _ _ ⟨rfl, rfl⟩
    refine Ll ?_
    refine WpL.nil (Blk.n (Thn.n (Wp.region (Ls (Rdo.move rfl) ?_))))
    refine Ls (Rdo.sl_l _ rfl rfl rfl (by omega)) ?_
    refine Ls (Rdo.assign rfl) (Lnt ?_)
    rw [hnx, hdd]
    exact ⟨k - 64, _, _, by omega, ⟨j + 1, some (slA pb po 64 c' 1), c' - 64, by omega, by omega, rfl, rfl⟩, (by repeat (first | exact trivial | refine ⟨rfl, ?_⟩)), by rw [hsucc]; exact Gk⟩
  · have h64' : ¬ ((bs.drop (64 * j)).length : Int) ≥ 64 := by omega
    have hq : bs.length / 64 = j := by omega
    rw [hq] at hZ
    generalize dBlocks Kl dS8 bs j = S at *
    generalize hR : bs.drop (64 * j) = R at *
    refine Wp.seq (Wsr (Ls (Rdo.move rfl) (Ls (Rdo.lenSlice rfl) (Ls (Rdo.gei rfl rfl) (Lnt (cL rfl ?_))))))
    refine Wp.exit ?_
    refine Thn.x ?_
    refine Thn.x ?_
    refine Blk.here ?_
    refine Thn.n (Wsr ?_)
    (refine WpL.step (Stp.alloc rfl ?_); intro nb16)
    refine Lnt (Wsr (Ls (Rdo.slArr rfl) (Ls (Rdo.move rfl) ?_)))
    refine WpL.step (Stp.copyAll rfl rfl (Src.next (Src.next (Src.next (Src.next Src.frozen)))) (by omega) (Sts.here (oneCells_bytesC R) (by simp [bytesC]; omega)) rfl ?_)
    refine Ls (Rdo.assign rfl) (Lnt (Wsr (Ls (Rdo.move rfl) ?_)))
    refine Ls (Rdo.indexArr rfl rfl (by omega)) ?_
    refine WpL.step (Stp.storeV rfl rfl (VC.i _ _) rfl (Sts.here (oneCells1 rfl) ?_) ?_)
    · rw [lput_bytes R (by omega)]
      simp [bytesC]
      omega
    rw [lput_bytes R (by omega), show Value.int .u8 128 = Value.int .u8 ((128 : UInt8).toNat : Int) from rfl, put8 _ _ _ (by simp; omega)]
    refine Lnt (Wsr (Ls (Rdo.assign rfl) (Lnt (Wp.seq (Wsr (Ls (Rdo.move rfl) (Ls (Rdo.gei rfl rfl) (Lnt ?_))))))))
    refine Wp.mono (Q := fun x e' l' => x = .normal ∧ EnvSub [(0, .slice a bs.length c), (2, vp nb2 0), (3, vp nb8 0), (4, vp nb17 0), (6, vp nb16 0), (8, vi (dEnd R))] e' ∧ Gh l' (suM Kl nb16 nb2 nb8 nb17 S (dLast R))) ?_ ?_
    · unfold dEnd
      by_cases h56 : 56 ≤ R.length
      · rw [if_pos h56]
        have h56' : (R.length : Int) ≥ 56 := by omega
        refine cK rfl (Wp.region (Ls (Rdo.assign rfl) (WpL.nil ?_)))
        exact ⟨rfl, (by repeat (first | exact trivial | refine ⟨rfl, ?_⟩)), Gk⟩
      · rw [if_neg h56]
        have h56' : ¬ (R.length : Int) ≥ 56 := by omega
        refine cL rfl (Wp.skip ?_)
        exact ⟨rfl, (by repeat (first | exact trivial | refine ⟨rfl, ?_⟩)), Gk⟩
    · rintro x e' l' ⟨rfl, he, hg⟩
      refine Thn.n (Wp.gh hg (Wp.sub he ?_))
      have hE : dEnd R = 64 ∨ dEnd R = 128 := by unfold dEnd; split <;> simp
      refine Wsr (Ls (Rdo.move rfl) (Ls (Rdo.lenSlice rfl) (Ls (Rdo.convInt rfl) ?_)))
      refine Ls (Rdo.shl rfl rfl (by omega)) ?_
      refine Ls (Rdo.assign rfl) (Lnt (Wp.seq (Wsr (Ls (Rdo.move rfl) (Lnt (Wp.block ?_))))))
      change Wp _ _ _ _ _ (eset (eset (eset (eset (eset (eset _ 31 (.slice a bs.length c)) 32 (.int .i64 bs.length)) 33 (.int .u64 (IntKind.u64.wrap bs.length))) 34 (.int .u64 (dBits bs.length))) 9 (.int .u64 (dBits bs.length))) 35 (.int .i64 0)) _
      refine Wp.loopE (fun k e h => ∃ i : Nat, i + k = 8 ∧ e = [(0, .slice a bs.length c), (2, vp nb2 0), (3, vp nb8 0), (4, vp nb17 0), (6, vp nb16 0), (8, vi (dEnd R)), (9, .int .u64 (dBits bs.length)), (35, vi i)] ∧ h = suM Kl nb16 nb2 nb8 nb17 S (dTail bs.length R i)) 8
        (e0 := [(0, .slice a bs.length c), (2, vp nb2 0), (3, vp nb8 0), (4, vp nb17 0), (6, vp nb16 0), (8, vi (dEnd R)), (9, .int .u64 (dBits bs.length)), (35, vi (0 : Nat))]) (l0 := suM Kl nb16 nb2 nb8 nb17 S (dTail bs.length R 0)) (by repeat (first | exact trivial | refine ⟨rfl, ?_⟩)) (by repeat (first | exact trivial | refine ⟨rfl, ?_⟩)) (by rw [dTail_zero]; exact Gk) ⟨0, by omega, rfl, rfl⟩ ?_
      rintro k e h ⟨i, hik, rfl, rfl⟩
      by_cases hi : i < 8
      · have hi' : (i : Int) < 8 := by omega
        have n1 : ((dEnd R : Nat) : Int) - 1 = ((dEnd R - 1 : Nat) : Int) := by omega
        have n2 : ((dEnd R - 1 : Nat) : Int) - (i : Int) = ((dEnd R - 1 - i : Nat) : Int) := by omega
        have m1 : (8 : Int) * (i : Int) = ((8 * i : Nat) : Int) := by omega
        have hlen := dTail_len bs.length R (by omega) i
        refine Wsr (Ls (Rdo.lti rfl rfl) (Lnt (Wp.seq (cK rfl (Wp.skip (Thn.n (Wp.seq (Wp.block (Wsr (Ls (Rdo.move rfl) (Ls (Rdo.assign rfl) (Lnt (Wp.region ?_)))))))))))))
        refine Ls (Rdo.move rfl) ?_
        refine Ls (Rdo.subE rfl rfl (by assumption) (by omega)) ?_
        refine Ls (Rdo.move rfl) ?_
        refine Ls (Rdo.subE rfl rfl (by assumption) (by omega)) ?_
        refine Ls (Rdo.move rfl) (Ls (Rdo.move rfl) ?_)
        refine Ls (Rdo.mulE rfl rfl (by assumption) (by omega)) ?_
        refine Ls (Rdo.shr rfl rfl (by omega)) ?_
        refine Ls (Rdo.convInt rfl) ?_
        refine Ls (Rdo.indexArr rfl rfl (by omega)) ?_
        refine WpL.step (Stp.storeV rfl rfl (VC.i _ _) rfl (Sts.here (oneCells1 rfl) ?_) ?_)
        · rw [bytesC_length, hlen]
          simp only [List.length_cons, List.length_nil]
          omega
        rw [u8w, put8 _ _ _ (by omega)]
        refine WpL.gh (l' := suM Kl nb16 nb2 nb8 nb17 S (dTail bs.length R (i + 1))) (by rw [dTail_succ]; exact Gk) ?_
        refine WpL.nil (Blk.n (Thn.n (Wp.region ?_)))
        refine Ls (Rdo.succ rfl rfl (by omega)) ?_
        refine Ls (Rdo.move rfl) (Lnt ?_)
        exact ⟨k - 1, _, _, by omega, ⟨i + 1, by omega, rfl, rfl⟩, (by repeat (first | exact trivial | refine ⟨rfl, ?_⟩)), Gk⟩
      · obtain rfl : i = 8 := by omega
        have hT := dTail_len bs.length R (by omega) 8
        have hEq : dEnd R / 64 = 1 ∧ dEnd R = 64 ∨ dEnd R / 64 = 2 ∧ dEnd R = 128 := by omega
        generalize dTail bs.length R 8 = T at *
        generalize dEnd R = E at *
        generalize hEE : E / 64 = Q at *
        refine Wsr (Ls (Rdo.lti rfl rfl) (Lnt (Wp.seq ?_)))
        refine Wp.condF rfl ?_
        refine Wp.exit ?_
        refine Thn.x ?_
        refine Thn.x ?_
        refine Blk.here ?_
        refine Thn.n (Wp.seq (Wsr (Ls (Rdo.assign rfl) (Lnt (Wp.block ?_)))))
        refine Wp.loopE (fun k e h => ∃ q : Nat, q + k = Q ∧ e = [(2, vp nb2 0), (3, vp nb8 0), (4, vp nb17 0), (6, vp nb16 0), (8, vi E), (11, vi ((64 * q : Nat) : Int))] ∧ h = suM Kl nb16 nb2 nb8 nb17 (dBlocks Kl S T q) T) Q
          (e0 := [(2, vp nb2 0), (3, vp nb8 0), (4, vp nb17 0), (6, vp nb16 0), (8, vi E), (11, vi ((64 * 0 : Nat) : Int))]) (l0 := suM Kl nb16 nb2 nb8 nb17 (dBlocks Kl S T 0) T) (by repeat (first | exact trivial | refine ⟨rfl, ?_⟩)) (by repeat (first | exact trivial | refine ⟨rfl, ?_⟩)) (by rw [dBlocks_zero]; exact Gk) ⟨0, by omega, rfl, rfl⟩ ?_
        rintro k e h ⟨q, hqk, rfl, rfl⟩
        by_cases hq : q < Q
        · have hq' : ((64 * q : Nat) : Int) < E := by omega
          have a1 : ((64 * q : Nat) : Int) + 64 = ((64 * (q + 1) : Nat) : Int) := by omega
          have hs2 := dBlocks_succ Kl S T q
          have s1 := take_own Kl hKl nb8 nb17 nb16 (dBlocks Kl S T q) T hT (64 * q) (by omega)
          rw [← hs2] at s1
          refine Wp.seq (Wsr (Ls (Rdo.move rfl) (Ls (Rdo.move rfl) (Ls (Rdo.lti rfl rfl) (Lnt (cK rfl (Wp.skip (Thn.n (Wp.seq (Wp.block (Wp.region (Ls (Rdo.move rfl) ?_))))))))))))
          refine Ls (Rdo.slArr_l _ rfl rfl rfl (by omega)) ?_
          refine WpL.step (Sc (s1) rfl ?_)
          rintro _ _ ⟨rfl, rfl⟩
          refine Ll ?_
          refine WpL.nil (Blk.n (Thn.n (Wp.region (Ls (Rdo.move rfl) ?_))))
          refine Ls (Rdo.addE rfl rfl (by assumption) (by omega)) ?_
          refine Ls (Rdo.assign rfl) (Lnt ?_)
          exact ⟨k - 1, _, _, by omega, ⟨q + 1, by omega, rfl, rfl⟩, (by repeat (first | exact trivial | refine ⟨rfl, ?_⟩)), Gk⟩
        · have hq' : ¬ ((64 * q : Nat) : Int) < E := by omega
          obtain rfl : q = Q := by omega
          generalize dBlocks Kl S T q = V at *
          refine Wp.seq (Wsr (Ls (Rdo.move rfl) (Ls (Rdo.move rfl) (Ls (Rdo.lti rfl rfl) (Lnt (cL rfl ?_))))))
          refine Wp.exit ?_
          refine Thn.x ?_
          refine Thn.x ?_
          refine Blk.here ?_
          refine Thn.n (Wp.seq (Wsr ?_))
          refine Ls (Rdo.load rfl (Lds.next Ld)) ?_
          refine Ls (Rdo.move rfl) (Lnt (Wp.block ?_))
          refine Wp.loopE (fun k e h => ∃ i : Nat, i + k = 8 ∧ e = [(2, vp nb2 0), (57, .agg V.C.toArray), (58, vi i)] ∧ h = [cel nb2 28 ((dOut V.l i).map v8)]) 8
            (e0 := [(2, vp nb2 0), (57, .agg V.C.toArray), (58, vi (0 : Nat))]) (l0 := [cel nb2 28 ((dOut V.l 0).map v8)]) (by repeat (first | exact trivial | refine ⟨rfl, ?_⟩)) (by repeat (first | exact trivial | refine ⟨rfl, ?_⟩)) (by rw [dOut_zero, List.map_replicate]; exact Gk) ⟨0, by omega, rfl, rfl⟩ ?_
          rintro k e h ⟨i, hik, rfl, rfl⟩
          by_cases hi : i < 8
          · have hi' : (i : Int) < 8 := by omega
            have w1 : V.C[i]? = some (v32 (V.l.getD i 0)) := by
              have := at32 V.l i hi
              rwa [show 0 + i * 1 = i by omega] at this
            have m1 : (4 : Int) * (i : Int) = ((4 * i : Nat) : Int) := by omega
            have a1 : ((4 * i : Nat) : Int) + 1 = ((4 * i + 1 : Nat) : Int) := by omega
            have a2 : ((4 * i : Nat) : Int) + 2 = ((4 * i + 2 : Nat) : Int) := by omega
            have a3 : ((4 * i : Nat) : Int) + 3 = ((4 * i + 3 : Nat) : Int) := by omega
            have hlen := dOut_len V.l i
            have hs3 := dOut_succ V.l i
            generalize hx : V.l.getD i 0 = x at *
            generalize dOut V.l i = D at *
            refine Wsr (Ls (Rdo.lti rfl rfl) (Lnt (Wp.seq (cK rfl (Wp.skip (Thn.n (Wp.seq (Wp.block (Wsr (Ls (Rdo.move rfl) ?_))))))))))
            refine Ls (Rdo.indexAgg1 rfl rfl (by omega) (by assumption)) ?_
            refine Ls (Rdo.assign rfl) (Ls (Rdo.assign rfl) (Lnt (Wp.region (Ls (Rdo.move rfl) ?_))))
            refine Ls (Rdo.mulE rfl rfl (by assumption) (by omega)) ?_
            refine Ls (Rdo.move rfl) ?_
            refine Ls (Rdo.mulE rfl rfl (by assumption) (by omega)) ?_
            refine Ls (Rdo.addE rfl rfl (by assumption) (by omega)) ?_
            refine Ls (Rdo.move rfl) ?_
            refine Ls (Rdo.mulE rfl rfl (by assumption) (by omega)) ?_
            refine Ls (Rdo.addE rfl rfl (by assumption) (by omega)) ?_
            refine Ls (Rdo.move rfl) ?_
            refine Ls (Rdo.mulE rfl rfl (by assumption) (by omega)) ?_
            refine Ls (Rdo.addE rfl rfl (by assumption) (by omega)) ?_
            refine Ls (Rdo.move rfl) ?_
            refine Ls (Rdo.shr rfl rfl (by omega)) ?_
            refine Ls (Rdo.convInt rfl) (Ls (Rdo.move rfl) ?_)
            refine Ls (Rdo.shr rfl rfl (by omega)) ?_
            refine Ls (Rdo.convInt rfl) (Ls (Rdo.move rfl) ?_)
            refine Ls (Rdo.shr rfl rfl (by omega)) ?_
            refine Ls (Rdo.convInt rfl) (Ls (Rdo.move rfl) (Ls (Rdo.convInt rfl) ?_))
            refine Ls (Rdo.indexArr rfl rfl (by omega)) ?_
            refine WpL.step (Stp.storeV rfl rfl (VC.i _ _) rfl (Sts.here (oneCells1 rfl) ?_) ?_)
            · simp only [List.length_map, List.length_set, List.length_cons, List.length_nil, hlen]; omega
            rw [put8v _ _ _ (by simp only [List.length_set, hlen]; omega)]
            refine Ls (Rdo.indexArr rfl rfl (by omega)) ?_
            refine WpL.step (Stp.storeV rfl rfl (VC.i _ _) rfl (Sts.here (oneCells1 rfl) ?_) ?_)
            · simp only [List.length_map, List.length_set, List.length_cons, List.length_nil, hlen]; omega
            rw [put8v _ _ _ (by simp only [List.length_set, hlen]; omega)]
            refine Ls (Rdo.indexArr rfl rfl (by omega)) ?_
            refine WpL.step (Stp.storeV rfl rfl (VC.i _ _) rfl (Sts.here (oneCells1 rfl) ?_) ?_)
            · simp only [List.length_map, List.length_set, List.length_cons, List.length_nil, hlen]; omega
            rw [put8v _ _ _ (by simp only [List.length_set, hlen]; omega)]
            refine Ls (Rdo.indexArr rfl rfl (by omega)) ?_
            refine WpL.step (Stp.storeV rfl rfl (VC.i _ _) rfl (Sts.here (oneCells1 rfl) ?_) ?_)
            · simp only [List.length_map, List.length_set, List.length_cons, List.length_nil, hlen]; omega
            rw [put8v _ _ _ (by simp only [List.length_set, hlen]; omega)]
            refine WpL.nil (Blk.n (Thn.n (Wp.region ?_)))
            refine Ls (Rdo.succ rfl rfl (by omega)) ?_
            refine Ls (Rdo.move rfl) (Lnt ?_)
            exact ⟨k - 1, _, _, by omega, ⟨i + 1, by omega, rfl, rfl⟩, (by repeat (first | exact trivial | refine ⟨rfl, ?_⟩)), by rw [hs3]; exact Gk⟩
          · obtain rfl : i = 8 := by omega
            have hlen := dOut_len V.l 8
            generalize dOut V.l 8 = D at *
            subst hZ
            have hlen2 : (Z.map v8).length = 32 := by rw [List.length_map]; exact hlen
            refine Wsr (Ls (Rdo.lti rfl rfl) (Lnt (Wp.seq ?_)))
            refine Wp.condF rfl ?_
            refine Wp.exit ?_
            refine Thn.x ?_
            refine Thn.x ?_
            refine Blk.here ?_
            refine Thn.n (Wsr ?_)
            refine Ls (Rdo.load rfl Ld) ?_
            refine WpL.step (St rfl rfl (VC.ag _) ?_)
            refine Lnt (Wp.ret ?_)
            refine Rt (ResV.cell rfl (by repeat (first | exact Lds.one rfl | (apply Lds.all; (first | rfl | assumption | (simp <;> fail))) | exact Lds.ione0 | exact Lds.ione rfl | (apply Lds.iall; (first | rfl | assumption | (simp <;> fail))) | apply Lds.next)) ResV.nil) ⟨rfl, rfl⟩
end Go.Proofs.YtomijhgicennbaaGreat
namespace Go.Proofs.YtomijhgicennbaaGreat
open Go
set_option maxHeartbeats 4000000
set_option linter.unusedSimpArgs false
set_option linter.unusedVariables false
set_option maxRecDepth 20000
theorem u8_range (x : Int) : 0 ≤ IntKind.u8.wrap x ∧ IntKind.u8.wrap x < 256 := by
  simp [IntKind.wrap, IntKind.bits, IntKind.signed]
  omega
theorem dOut_range (s : List Int) (i : Nat) : ∀ x ∈ dOut s i, 0 ≤ x ∧ x < 256 := by
  induction i with
  | zero =>
    intro x hx
    rw [dOut_zero] at hx
    have := List.eq_of_mem_replicate hx
    omega
  | succ i ih =>
    intro x hx
    rw [dOut_succ] at hx
    rcases List.mem_or_eq_of_mem_set hx with hx | rfl
    · rcases List.mem_or_eq_of_mem_set hx with hx | rfl
      · rcases List.mem_or_eq_of_mem_set hx with hx | rfl
        · rcases List.mem_or_eq_of_mem_set hx with hx | rfl
          · exact ih x hx
          · exact u8_range _
        · exact u8_range _
      · exact u8_range _
    · exact u8_range _
def dBytes (bs : List UInt8) : List UInt8 := (dSum bs).map fun x => UInt8.ofNat x.toNat
theorem dSum_len (bs : List UInt8) : (dSum bs).length = 32 := by unfold dSum; exact dOut_len _ _
theorem dSum_range (bs : List UInt8) : ∀ x ∈ dSum bs, 0 ≤ x ∧ x < 256 := by unfold dSum; exact dOut_range _ _
def dHash (bs : List UInt8) : Hash := ⟨dBytes bs, by rw [dBytes, List.length_map, dSum_len]⟩
theorem dHash_cells (bs : List UInt8) : (dSum bs).map (Value.int .u8) = hc (dHash bs) := by
  unfold hc dHash dBytes bytesC
  rw [List.map_map]
  refine List.map_congr_left fun x hx => ?_
  have h := dSum_range bs x hx
  simp only [Function.comp_apply, u8c]
  congr 1
  rw [UInt8.toNat_ofNat']
  omega
attribute [irreducible] dHash
theorem sumH_ok (a : Option Addr) (c : Nat) (bs : List UInt8) (hl : bs.length ≤ 1000000000000) (hc_ : bs.length ≤ c) :
    Trip Tryz.prog 45 [.slice a bs.length c] [fz (fun g => RdBytes g (.slice a bs.length c) bs)] (fun r l => r = .agg (hc (dHash bs)).toArray ∧ l = []) := by
  have h := sum_ok a c bs hl hc_
  rw [dHash_cells] at h
  exact h
/-- A key, laid out; each byte turned over by a mark. -/
def padK (key : List UInt8) : List UInt8 := key ++ List.replicate (64 - key.length) 0
def xorB (m : UInt8) (k : List UInt8) : List UInt8 := k.map fun c => c ^^^ m
/-- HMAC, for keys of at most 64 bytes. -/
def dMac (key p : List UInt8) : Hash := dHash (xorB 0x5c (padK key) ++ (dHash (xorB 0x36 (padK key) ++ p)).l)
theorem padK_len {key : List UInt8} (h : key.length ≤ 64) : (padK key).length = 64 := by simp [padK]; omega
theorem xorB_len (m : UInt8) (k : List UInt8) : (xorB m k).length = k.length := by simp [xorB]
theorem xor8 (a b : UInt8) : bits .xor .u8 (a.toNat : Int) (b.toNat : Int) = ((a ^^^ b).toNat : Int) := by
  have ha := a.toNat_lt
  have hb := b.toNat_lt
  rw [u8_xor_nat a.toNat b.toNat ha hb, UInt8.toNat_xor]
end Go.Proofs.YtomijhgicennbaaGreat
namespace Go.Proofs.YtomijhgicennbaaGreat
open Go
set_option maxHeartbeats 4000000
set_option linter.unusedSimpArgs false
set_option linter.unusedVariables false
set_option maxRecDepth 20000
/-- A ring's keys; a seal. -/
def keysOf (n : Nat) (seed : Hash) : List Hash := (List.range n).map fun i => dHash (seed.l ++ [UInt8.ofNat i])
def sealH (keys : List Hash) (i : Int) (p : List UInt8) : Hash :=
  if 0 ≤ i then match keys[i.toNat]? with
    | some k => dMac k.l p
    | none => hash0
  else hash0
def sealOk (keys : List Hash) (i : Int) (p : List UInt8) (tag : Hash) : Bool := decide (0 ≤ i ∧ i < keys.length ∧ sealH keys i p = tag)
def quorum (n : Nat) : Int := n - ((max n 1 - 1) / 3 : Nat)
/-- Votes that are cast, that are good; who said so. -/
def castV (keys : List Hash) (kind slot view : Int) (sum : Hash) (from_ : Int) : Vote :=
  ⟨kind, slot, view, sum, from_, sealH keys from_ (voteBody ⟨kind, slot, view, sum, from_, hash0⟩)⟩
def goodV (keys : List Hash) (v : Vote) : Bool := sealOk keys v.from_ (voteBody v) v.tag
def onV (keys : List Hash) (l : List Vote) (kind slot view : Int) (sum : Hash) : List Int :=
  ((l.take 10).filter fun v => decide (v.kind = kind) && decide (v.slot = slot) && decide (v.view = view) && decide (v.sum = sum) && goodV keys v).map (·.from_)
def dedupI (l : List Int) : List Int := l.foldl (fun a x => if x ∈ a then a else a ++ [x]) []
def meetsV (keys : List Hash) (l : List Vote) (kind slot view : Int) (sum : Hash) : Bool := decide (quorum keys.length ≤ (dedupI (onV keys l kind slot view sum)).length)
/-- The rule. -/
structure LockS where
  view : Int
  value : List UInt8
  votes : List Vote
def free : LockS := ⟨-1, [], []⟩
def leader (slot view : Int) (nodes : Nat) : Int := if nodes < 1 ∨ slot < 0 ∨ view < 0 then 0 else (slot % nodes + view % nodes) % nodes
def provesL (keys : List Hash) (l : List Vote) (slot below : Int) (value : List UInt8) : Int × Bool :=
  match l with
  | [] => (-1, false)
  | v :: _ => if v.view < 0 ∨ below ≤ v.view ∨ meetsV keys l 1 slot v.view (dHash value) = false then (-1, false) else (v.view, true)
def mayL (keys : List Hash) (k : LockS) (slot view : Int) (value : List UInt8) (why : List Vote) : Bool :=
  if k.view = -1 ∨ k.value = value then true else (provesL keys why slot view value).2 && decide (k.view < (provesL keys why slot view value).1)
def provedL (keys : List Hash) (slot below : Int) (k : LockS) : LockS := if (provesL keys k.votes slot below k.value).2 = true then ⟨(provesL keys k.votes slot below k.value).1, k.value, k.votes⟩ else free
def higherL (keys : List Hash) (slot below : Int) (a b : LockS) : LockS := if (provedL keys slot below a).view < (provedL keys slot below b).view then provedL keys slot below b else provedL keys slot below a
/-- What is known of a slot. -/
structure RouS where
  keys : List Hash
  me : Int
  slot : Int
  view : Int
  lock : LockS
  want : List UInt8
  props : List (Int × Msg)
  values : List (List UInt8)
  prep : List (Int × List Vote)
  comm : List (Int × List Vote)
  stats : List (Int × List (Int × Msg))
  prepared : Int
  committed : Int
  proposed : Int
  value : List UInt8
  why : List Vote
  decided : Bool
def RouS.new (keys : List Hash) (me slot : Int) : RouS := ⟨keys, me, slot, 0, free, [], [], [], [], [], [], -1, -1, -1, [], [], false⟩
def RouS.leads (x : RouS) (node view : Int) : Bool := decide (node = leader x.slot view x.keys.length)
def RouS.sealed (x : RouS) (m : Msg) (to : Int) : Msg :=
  { m with from_ := x.me, to := to, slot := x.slot, tag := sealH x.keys x.me (msgBody { m with from_ := x.me, to := to, slot := x.slot }) }
def RouS.all (x : RouS) (m : Msg) : List Msg := (((List.range x.keys.length).map fun i : Nat => (i : Int)).filter fun i => decide (i ≠ x.me)).map fun to => x.sealed m to
def balOf (l : List (Int × List Vote)) (view : Int) : List Vote := (alook l view).getD []
def hasV (l : List Vote) (sum : Hash) (from_ : Int) : Bool := l.any fun v => decide (v.sum = sum) && decide (v.from_ = from_)
def addV (l : List (Int × List Vote)) (v : Vote) : List (Int × List Vote) := if hasV (balOf l v.view) v.sum v.from_ = true then aset l v.view (balOf l v.view) else aset l v.view (balOf l v.view ++ [v])
def RouS.counts (x : RouS) (v : Vote) : RouS := if v.kind = 1 then { x with prep := addV x.prep v } else { x with comm := addV x.comm v }
def RouS.knows (x : RouS) (b : List UInt8) : RouS := if b ∈ x.values then x else { x with values := x.values ++ [b] }
def RouS.proposal (x : RouS) (m : Msg) : RouS := if (alook x.props m.view).isSome = true ∨ x.leads m.from_ m.view = false then x else { x with props := aset x.props m.view m }.knows m.value
def RouS.vote (x : RouS) (m : Msg) : RouS := match m.votes with
  | [] => x
  | v :: _ => if (v.kind = 1 ∨ v.kind = 2) ∧ v.slot = x.slot ∧ v.from_ = m.from_ ∧ goodV x.keys v = true then x.counts v else x
def RouS.status (x : RouS) (m : Msg) : RouS := if x.leads x.me m.view = false then x else
  let l := (alook x.stats m.view).getD []
  { x with stats := aset x.stats m.view (if (alook l m.from_).isSome = true then l else aset l m.from_ m) }
def RouS.decides (x : RouS) (value : List UInt8) (why : List Vote) : RouS := { x with value := value, why := why, decided := true }
def RouS.decision (x : RouS) (m : Msg) : RouS := match m.votes with
  | [] => x
  | v :: _ => if meetsV x.keys m.votes 2 x.slot v.view (dHash m.value) = true then x.decides m.value m.votes else x
def sortV (l : List Vote) : List Vote := l.mergeSort fun a b => decide (a.from_ ≤ b.from_)
def RouS.enough (x : RouS) (l : List Vote) : Option (List UInt8 × List Vote) :=
  (x.values.find? fun b => decide (quorum x.keys.length ≤ (l.filter fun v => decide (v.sum = dHash b)).length)).map fun b => (b, sortV (l.filter fun v => decide (v.sum = dHash b)))
def RouS.votes (x : RouS) (kind : Int) (value : List UInt8) : List Msg × RouS :=
  let v := castV x.keys kind x.slot x.view (dHash value) x.me
  ((x.counts v).all ⟨3, 0, 0, 0, x.view, [], [v], hash0⟩, x.counts v)
def sortT {β : Type} (l : List (Int × β)) : List (Int × β) := l.mergeSort fun a b => decide (a.1 ≤ b.1)
def RouS.settles (x : RouS) : Option (List Msg × RouS) := ((sortT x.comm).findSome? fun p => x.enough p.2).map fun r => ([], x.decides r.1 r.2)
def RouS.prepares (x : RouS) : Option (List Msg × RouS) := match alook x.props x.view with
  | none => none
  | some m => if x.view ≤ x.prepared ∨ mayL x.keys x.lock x.slot x.view m.value m.votes = false then none else some ({ x with prepared := x.view }.votes 1 m.value)
def RouS.commits (x : RouS) : Option (List Msg × RouS) := if x.view ≤ x.committed then none else match x.enough (balOf x.prep x.view) with
  | none => none
  | some (b, l) => some ({ x with committed := x.view, lock := ⟨x.view, b, l⟩ }.votes 2 b)
def RouS.chosen (x : RouS) : Option (List UInt8 × List Vote) :=
  let l := (alook x.stats x.view).getD []
  if 0 < x.view ∧ ((alook x.stats x.view).isSome = false ∨ (alook l x.me).isSome = false ∨ (l.length : Int) < quorum x.keys.length) then none else
  let k := if 0 < x.view then (sortT l).foldl (fun k p => higherL x.keys x.slot x.view k ⟨-1, p.2.value, p.2.votes⟩) free else free
  if 0 < x.view ∧ 0 ≤ k.view then some (k.value, k.votes) else if x.want = [] then none else some (x.want, [])
def RouS.proposes (x : RouS) : Option (List Msg × RouS) := if x.leads x.me x.view = false ∨ x.view ≤ x.proposed then none else match x.chosen with
  | none => none
  | some (b, why) =>
    let y := { x with proposed := x.view }
    let m : Msg := ⟨2, 0, 0, 0, x.view, b, why, hash0⟩
    let z := y.proposal (y.sealed m y.me)
    some (z.all m, z)
def RouS.step (x : RouS) : Option (List Msg × RouS) := x.settles.or (x.prepares.or (x.commits.or x.proposes))
def RouS.steps : Nat → RouS → List Msg × RouS
  | 0, x => ([], x)
  | n + 1, x => if x.decided = true then ([], x) else match x.step with
    | none => ([], x)
    | some (l, y) => (l ++ (y.steps n).1, (y.steps n).2)
end Go.Proofs.YtomijhgicennbaaGreat
namespace Go.Proofs.YtomijhgicennbaaGreat
open Go
set_option maxHeartbeats 4000000
set_option linter.unusedSimpArgs false
set_option linter.unusedVariables false
set_option maxRecDepth 20000
theorem vpdq_ok (xs : List Vote) (v : Value) (lim : Int) (hn : xs.length ≤ 12) (hf : ∀ x ∈ xs, okFrom x) :
    Trip Tryz.prog 196 [v, vi 0, vi xs.length, vi lim, cmpF] [rowA 44 68 v xs.length (votesC xs)]
      (fun r l => r = .tuple #[] ∧ ∃ ys : List Vote, ys.Perm xs ∧ RiseV ys ∧ l = [rowA 44 68 v xs.length (votesC ys)]) := by
  have s1 := vinsertion_ok xs v (by omega) hf
  refine Trip.of_body Tryz.func196 rfl Tryz.ntmps196 Tryz.results196 rfl ?_
  refine Wsr (Ls (Rdo.assign rfl) (Lnt (Wsr (Ls (Rdo.assign rfl) (Lnt (Wp.block ?_))))))
  refine Wp.loopOnce ?_
  refine Wp.block (Wsr (Ls (Rdo.move rfl) (Ls (Rdo.move rfl) ?_)))
  refine Ls (Rdo.sub64 rfl rfl (by omega)) ?_
  refine Ls (Rdo.assign rfl) (Lnt (Wp.seq (Wsr (Ls (Rdo.move rfl) (Ls (Rdo.lei rfl rfl) (Lnt (cK rfl (Wsr (Ls (Rdo.move rfl) (Ls (Rdo.move rfl) (Ls (Rdo.move rfl) (Ls (Rdo.move rfl) ?_))))))))))))
  refine WpL.step (Sc (s1) rfl ?_)
  rintro _ _ ⟨rfl, ⟨v24_0, ⟨hv24_1, ⟨hv24_2, rfl⟩⟩⟩⟩
  refine Ll ?_
  refine Lnt (Wp.ret ?_)
  refine Thn.r ?_
  refine Blk.r ?_
  refine Thn.r ?_
  refine Blk.r ?_
  refine Rt ResV.nil ⟨rfl, ⟨_, ⟨(by first | assumption | omega | (simp <;> done) | (simp <;> omega)), ⟨(by first | assumption | omega | (simp <;> done) | (simp <;> omega)), rfl⟩⟩⟩⟩
theorem vsort_ok (xs : List Vote) (v : Value) (hn : xs.length ≤ 12) (hf : ∀ x ∈ xs, okFrom x) :
    Trip Tryz.prog 180 [v, cmpF] [rowA 44 68 v xs.length (votesC xs)]
      (fun r l => r = .tuple #[] ∧ ∃ ys : List Vote, ys.Perm xs ∧ RiseV ys ∧ l = [rowA 44 68 v xs.length (votesC ys)]) := by
  have s1 := fun lim => vpdq_ok xs v lim hn hf
  refine Trip.get Pk.here (fun r => rowA_shape) ?_
  rintro ⟨a0, c0, rfl⟩
  refine Trip.of_body Tryz.func180 rfl Tryz.ntmps180 Tryz.results180 rfl ?_
  refine Wsr (Ls (Rdo.move rfl) (Ls (Rdo.lenSlice rfl) (Ls (Rdo.assign rfl) (Lnt (Wp.region (Ls (Rdo.move rfl) (Ls (Rdo.move rfl) (Ls (Rdo.move rfl) (Ls (Rdo.convInt rfl) ?_)))))))))
  refine WpL.step (Sc (bitsLen_ok _ (by first | rfl | assumption | omega | (simp <;> done) | (simp <;> omega) | (simp [IntKind.bits]; omega) | simp_all)) rfl ?_)
  rintro _ _ ⟨v13_0, ⟨rfl, rfl⟩⟩
  refine Ll ?_
  refine Ls (Rdo.move rfl) ?_
  refine WpL.step (Sc (s1 _) rfl ?_)
  rintro _ _ ⟨rfl, ⟨v17_0, ⟨hv17_1, ⟨hv17_2, rfl⟩⟩⟩⟩
  refine Ll ?_
  refine WpL.nil ?_
  refine Ret.end_ ResV.nil Gk ⟨rfl, ⟨_, ⟨(by first | assumption | omega | (simp <;> done) | (simp <;> omega)), ⟨(by first | assumption | omega | (simp <;> done) | (simp <;> omega)), rfl⟩⟩⟩⟩
abbrev voteV (v : Vote) : List Value := [.agg (voteC v).toArray]
theorem vappendSeq_ok (gf : FuncId) (cap : List Value) (own : List HP) (L : List Vote) (hl : L.length ≤ 12) (hf : callable Tryz.prog gf = true) (hit : IterOK Tryz.prog gf cap voteV [] own (fun xs => xs = L)) :
    Trip Tryz.prog 195 [vnil, .func (.func gf) #[] cap.toArray] own
      (fun r l => l = rowA 44 68 r L.length (votesC L) :: own) := by
  refine Trip.of_body Tryz.func195 rfl Tryz.ntmps195 Tryz.results195 rfl ?_
  refine Wsr ?_
  (refine WpL.step (Stp.boxV rfl (VC.sl _ _ _) rfl ?_); intro nb2)
  refine Ls (Rdo.assign rfl) (Lnt (Wp.seq (Wsr (Ls (Rdo.move rfl) (Lnt (Wp.block ?_))))))
  refine Wp.rangeFunc (ps := [7]) rfl hf hit (fun _ => rfl) rfl (fun pre l => ∃ v, l = [cel nb2 32 [v], rowA 44 68 v pre.length (votesC pre)]) (fun _ _ _ => False)
    (l0 := [cel nb2 32 [vnil], rowA 44 68 vnil 0 (votesC [])]) (Gh.trans (Gh.nil 44 68) (Gh.perm (List.Perm.swap _ _ _))) ⟨vnil, rfl⟩ (Bor.nil _) ?_ ?_ ?_
  · rintro lp rec pre x rest _ hs ⟨v, rfl⟩ st pe
    have hlen : (pre ++ x :: rest).length ≤ 12 := by rw [hs]; exact hl
    simp at hlen
    have hlx := voteC_length x
    have ho := oneCells_voteC x
    refine Wp.get (Pk.next Pk.here) (fun r => rowA_shape) ?_
    rintro ⟨a0, c0, rfl⟩
    refine Wp.region ?_
    (refine WpL.step (Stp.alloc rfl ?_); intro nb1)
    refine WpL.step (St rfl rfl (VC.ag _) ?_)
    refine WpL.nil ?_
    refine ⟨rfl, fun st pe => ?_⟩
    refine Wp.block (Wp.region (Ls (Rdo.load rfl (Lds.next (Lds.one rfl))) ?_))
    refine Ls (Rdo.load rfl Ld) ?_
    (refine WpL.step (Stp.sliceV rfl rfl (VCs.cons (VC.ag _) (by first | rfl | assumption | (simp <;> done)) VCs.nil) (by simp only [List.cons_append, List.nil_append, List.append_nil]; exact rfl) rfl rfl ?_); intro nb4)
    (refine WpL.step (Stp.appendP rfl rfl (Pk.next (Pk.next (Pk.next Pk.here))) (Src.cel (by first | rfl | (simp <;> done) | (simp <;> omega))) (by first | rfl | assumption | (simp <;> done) | (simp <;> omega)) (by first | assumption | exact oneCells1 rfl | exact oneCells1 (by assumption) | exact oneCells_bytesC _ | exact oneCells_votesC _ | (simp [oneCells, Value.oneCell'] <;> done)) (by first | omega | (simp <;> omega)) (by first | omega | (simp <;> omega)) rfl (by first | rfl | (simp <;> done)) ?_); intro na5 nc5)
    refine WpL.step (Stp.storeV rfl rfl (VC.sl _ _ _) rfl (Sts.next (Sts.next (Sts.next (Sp (oneCells1 rfl))))) ?_)
    refine WpL.nil (Blk.n ?_)
    refine ⟨_, ?_, .slice na5 (pre.length + 1) nc5, rfl⟩
    rw [List.length_append, votesC_app, votesC_one]
    exact Gk
  · rintro xs _ rfl ⟨v, rfl⟩
    refine Blk.n (Thn.n (Wsr (Ls (Rdo.load rfl (Lds.one rfl)) (Ls (Rdo.assign rfl) (Lnt (Wp.ret ?_))))))
    exact Ret.now (ResV.tmp rfl ResV.nil) (Gh.drop Pk.here) rfl
  · intro j pre l' h
    exact h.elim
theorem vcollect_ok (gf : FuncId) (cap : List Value) (own : List HP) (L : List Vote) (hl : L.length ≤ 12) (hf : callable Tryz.prog gf = true) (hit : IterOK Tryz.prog gf cap voteV [] own (fun xs => xs = L)) :
    Trip Tryz.prog 179 [.func (.func gf) #[] cap.toArray] own
      (fun r l => l = rowA 44 68 r L.length (votesC L) :: own) := by
  refine Trip.of_body Tryz.func179 rfl Tryz.ntmps179 Tryz.results179 rfl ?_
  refine Wsr (Ls (Rdo.assign rfl) (Lnt (Wsr (Ls (Rdo.move rfl) ?_))))
  refine WpL.step (Stp.call (vappendSeq_ok gf cap own L hl hf hit) (by kernel_rfl) rfl Tk.rfl_ rfl ?_)
  rintro r _ rfl
  refine WpL.lst (List.append_nil _) ?_
  refine Ls (Rdo.assign rfl) (Lnt (Wp.ret ?_))
  exact Ret.now (ResV.tmp rfl ResV.nil) Gh.rfl_ rfl
theorem sortV_perm (l : List Vote) : (sortV l).Perm l := List.mergeSort_perm _ _
theorem sortV_rise (l : List Vote) : RiseV (sortV l) := by
  have h := List.pairwise_mergeSort (le := fun a b : Vote => decide (a.from_ ≤ b.from_)) (by simp; intro a b c h1 h2; omega) (by simp; intro a b; omega) l
  exact h.imp (by simp)
theorem rise_unique {xs ys : List Vote} (h : xs.Perm ys) (hd : (xs.map (·.from_)).Nodup) (hx : RiseV xs) (hy : RiseV ys) : xs = ys := by
  refine List.Perm.eq_of_pairwise (fun a b ha hb h1 h2 => ?_) hx hy h
  have e : a.from_ = b.from_ := Int.le_antisymm h1 h2
  have hb' := h.mem_iff.2 hb
  clear h1 h2 hx hy hb h
  induction xs with
  | nil => cases ha
  | cons x xs ih =>
    rw [List.map_cons, List.nodup_cons] at hd
    rcases List.mem_cons.1 ha with h1 | h1 <;> rcases List.mem_cons.1 hb' with h2 | h2
    · rw [h1, h2]
    · exact absurd (List.mem_map.2 ⟨b, h2, by rw [← e, h1]⟩) hd.1
    · exact absurd (List.mem_map.2 ⟨a, h1, by rw [e, h2]⟩) hd.1
    · exact ih hd.2 h1 h2
/-- The votes of an iterator, by rising nodes. -/
theorem vsorted_ok (gf : FuncId) (cap : List Value) (own : List HP) (L : List Vote) (hl : L.length ≤ 12) (hF : ∀ x ∈ L, okFrom x) (hd : (L.map (·.from_)).Nodup) (hf : callable Tryz.prog gf = true) (hit : IterOK Tryz.prog gf cap voteV [] own (fun xs => xs = L)) :
    Trip Tryz.prog 150 [.func (.func gf) #[] cap.toArray, cmpF] own
      (fun r l => l = rowA 44 68 r L.length (votesC (sortV L)) :: own) := by
  refine Trip.of_body Tryz.func150 rfl Tryz.ntmps150 Tryz.results150 rfl ?_
  refine Wsr (Ls (Rdo.assign rfl) (Lnt (Wsr (Ls (Rdo.move rfl) ?_))))
  refine WpL.step (Stp.call (vcollect_ok gf cap own L hl hf hit) (by kernel_rfl) rfl Tk.rfl_ rfl ?_)
  rintro r _ rfl
  refine WpL.lst (List.append_nil _) ?_
  refine Ls (Rdo.assign rfl) (Lnt (Wsr (Ls (Rdo.move rfl) (Ls (Rdo.move rfl) ?_))))
  refine WpL.step (Sc (vsort_ok _ _ (by first | rfl | assumption | omega | (simp <;> done) | (simp <;> omega) | (simp [IntKind.bits]; omega) | simp_all) (by first | rfl | assumption | omega | (simp <;> done) | (simp <;> omega) | (simp [IntKind.bits]; omega) | simp_all)) rfl ?_)
  rintro _ _ ⟨rfl, ⟨v8_0, ⟨hv8_1, ⟨hv8_2, rfl⟩⟩⟩⟩
  refine Ll ?_
  refine Lnt (Wsr (Ls (Rdo.move rfl) (Ls (Rdo.assign rfl) (Lnt (Wp.ret ?_)))))
  have e1 : v8_0 = sortV L := rise_unique (hv8_1.trans (sortV_perm L).symm) ((hv8_1.map _).nodup_iff.2 hd) hv8_2 (sortV_rise L)
  rw [e1]
  exact Ret.now (ResV.tmp rfl ResV.nil) Gh.rfl_ rfl
end Go.Proofs.YtomijhgicennbaaGreat
namespace Go.Proofs.YtomijhgicennbaaGreat
open Go
set_option maxHeartbeats 4000000
set_option linter.unusedSimpArgs false
set_option linter.unusedVariables false
set_option maxRecDepth 20000
section
variable {β : Type}
def ptrE : List (Int × β) → List Nat → List (Int × Value)
  | x :: l, q :: qs => (x.1, .pointer (some ⟨q, 0, none⟩)) :: ptrE l qs
  | _, _ => []
def ownE (A : Nat → β → HP) : List (Int × β) → List Nat → List HP
  | x :: l, q :: qs => A q x.2 :: ownE A l qs
  | _, _ => []
theorem ptrE_none : ∀ {ls : List (Int × β)} {qs : List Nat} {k : Int}, qs.length = ls.length → alook ls k = none → alook (ptrE ls qs) k = none := by
  intro ls
  induction ls with
  | nil => intro qs k _ _; cases qs <;> rfl
  | cons x ls ih =>
    intro qs k hl h
    cases qs with
    | nil => simp at hl
    | cons q qs =>
      simp only [ptrE, alook] at h ⊢
      split at h
      · cases h
      · rename_i hk
        rw [if_neg hk]
        exact ih (by simpa using hl) h
theorem ptrE_keys : ∀ {ls : List (Int × β)} {qs : List Nat}, qs.length = ls.length → akeys (ptrE ls qs) = akeys ls := by
  intro ls
  induction ls with
  | nil => intro qs _; cases qs <;> rfl
  | cons x ls ih =>
    intro qs hl
    cases qs with
    | nil => simp at hl
    | cons q qs =>
      have := ih (qs := qs) (by simpa using hl)
      simp only [akeys] at this ⊢
      simp [ptrE, this]
theorem ptrE_len {ls : List (Int × β)} {qs : List Nat} (h : qs.length = ls.length) : (ptrE ls qs).length = ls.length := by
  have := congrArg List.length (ptrE_keys (ls := ls) h)
  simpa [akeys] using this
theorem ptrE_snoc : ∀ {ls : List (Int × β)} {qs : List Nat} (k : Int) (v : β) (q : Nat), qs.length = ls.length → ptrE (ls ++ [(k, v)]) (qs ++ [q]) = ptrE ls qs ++ [(k, .pointer (some ⟨q, 0, none⟩))] := by
  intro ls
  induction ls with
  | nil => intro qs k v q hl; obtain rfl := List.eq_nil_of_length_eq_zero hl; rfl
  | cons x ls ih =>
    intro qs k v q hl
    cases qs with
    | nil => simp at hl
    | cons p qs => simp only [List.cons_append, ptrE]; rw [ih k v q (by simpa using hl)]
theorem ownE_snoc (A : Nat → β → HP) : ∀ {ls : List (Int × β)} {qs : List Nat} (k : Int) (v : β) (q : Nat), qs.length = ls.length → ownE A (ls ++ [(k, v)]) (qs ++ [q]) = ownE A ls qs ++ [A q v] := by
  intro ls
  induction ls with
  | nil => intro qs k v q hl; obtain rfl := List.eq_nil_of_length_eq_zero hl; rfl
  | cons x ls ih =>
    intro qs k v q hl
    cases qs with
    | nil => simp at hl
    | cons p qs => simp only [List.cons_append, ownE]; rw [ih k v q (by simpa using hl)]
/-- A table, opened at a key: the pointer, what stands behind it, all else. -/
theorem ptrE_at (A : Nat → β → HP) : ∀ {ls : List (Int × β)} {qs : List Nat} {k : Int} {v : β}, qs.length = ls.length → alook ls k = some v →
    ∃ (q : Nat) (R : List HP), alook (ptrE ls qs) k = some (.pointer (some ⟨q, 0, none⟩)) ∧ (ownE A ls qs).Perm (A q v :: R) ∧ ∀ v', ptrE (aset ls k v') qs = ptrE ls qs ∧ (A q v' :: R).Perm (ownE A (aset ls k v') qs) := by
  intro ls
  induction ls with
  | nil => intro qs k v _ h; cases h
  | cons x ls ih =>
    intro qs k v hl h
    cases qs with
    | nil => simp at hl
    | cons q qs =>
      simp only [alook] at h
      by_cases hk : x.1 = k
      · rw [if_pos hk] at h
        cases h
        refine ⟨q, ownE A ls qs, by simp [ptrE, alook, hk], by simp [ownE], fun v' => ?_⟩
        have e : aset (x :: ls) k v' = (k, v') :: ls := by simp [aset, hk]
        rw [e]
        simp [ptrE, ownE, hk]
      · rw [if_neg hk] at h
        obtain ⟨q', R, h1, h2, h3⟩ := ih (qs := qs) (by simpa using hl) h
        refine ⟨q', A q x.2 :: R, by simp [ptrE, alook, hk, h1], by simp only [ownE]; exact (h2.cons _).trans (List.Perm.swap _ _ _), fun v' => ?_⟩
        have e : aset (x :: ls) k v' = x :: aset ls k v' := by simp [aset, hk]
        obtain ⟨h4, h5⟩ := h3 v'
        rw [e]
        simp only [ptrE, ownE, h4]
        exact ⟨trivial, (List.Perm.swap _ _ _).trans (h5.cons _)⟩
def tpL (T : TypeId) (A : Nat → β → HP) (b : Nat) (ls : List (Int × β)) (x : Nat × List Nat) : List HP :=
  [cel b T [.map (some x.1)], mapA i64 x.1 (ptrE ls x.2), starH (ownE A ls x.2), pureH (x.2.length = ls.length)]
def tpA (T : TypeId) (A : Nat → β → HP) (b : Nat) (ls : List (Int × β)) : HP := exH fun x => starH (tpL T A b ls x)
variable {T : TypeId} {A : Nat → β → HP} {b : Nat} {ls : List (Int × β)} {l rest : List HP} {k : Int}
/-- There is nothing at the key. -/
theorem GhE.tpN (hp : Pk l (tpA T A b ls) rest) (h : alook ls k = none) : GhE l (fun x : Nat × List Nat => alook (ptrE ls x.2) k = none ∧ x.2.length = ls.length)
    (fun x => cel b T [.map (some x.1)] :: mapA i64 x.1 (ptrE ls x.2) :: starH (ownE A ls x.2) :: rest) := by
  have h0 := GhE.open_ (f := tpL T A b ls) hp
  refine GhE.mk fun F w hl => ?_
  obtain ⟨x, -, h1⟩ := h0.use hl
  simp only [tpL, List.cons_append, List.nil_append] at h1
  obtain ⟨h3, h4⟩ := ((Gh.front (Pk.next (Pk.next (Pk.next Pk.here)))).use h1).open_pure
  exact ⟨x, ⟨ptrE_none h3 h, h3⟩, h4⟩
/-- The table is opened at a key that it has. -/
theorem GhE.tpS {v : β} (hp : Pk l (tpA T A b ls) rest) (h : alook ls k = some v) :
    GhE l (fun x : Nat × List Nat × Nat × List HP => alook (ptrE ls x.2.1) k = some (.pointer (some ⟨x.2.2.1, 0, none⟩)) ∧ x.2.1.length = ls.length ∧ (ownE A ls x.2.1).Perm (A x.2.2.1 v :: x.2.2.2) ∧ ∀ v', ptrE (aset ls k v') x.2.1 = ptrE ls x.2.1 ∧ (A x.2.2.1 v' :: x.2.2.2).Perm (ownE A (aset ls k v') x.2.1))
      (fun x => cel b T [.map (some x.1)] :: mapA i64 x.1 (ptrE ls x.2.1) :: A x.2.2.1 v :: starH x.2.2.2 :: rest) := by
  have h0 := GhE.open_ (f := tpL T A b ls) hp
  refine GhE.mk fun F w hl => ?_
  obtain ⟨x, -, h1⟩ := h0.use hl
  simp only [tpL, List.cons_append, List.nil_append] at h1
  obtain ⟨h3, h4⟩ := ((Gh.front (Pk.next (Pk.next (Pk.next Pk.here)))).use h1).open_pure
  obtain ⟨q, R, e1, e2, e3⟩ := ptrE_at A h3 h
  refine ⟨(x.1, x.2, q, R), ⟨e1, h3, e2, e3⟩, ?_⟩
  have h5 := Holds.open_star ((Gh.front (Pk.next (Pk.next Pk.here))).use h4)
  have h6 := h5.perm (e2.append_right _)
  have h7 : Holds (R ++ A q v :: cel b T [.map (some x.1)] :: mapA i64 x.1 (ptrE ls x.2) :: rest) F w := h6.perm List.perm_middle.symm
  exact (Tk.use (pre := [cel b T [.map (some x.1)], mapA i64 x.1 (ptrE ls x.2), A q v, starH R]) (by repeat (first | exact Tk.nil | apply Tk.cons (by repeat (first | exact Pk.here | apply Pk.next)))) (Holds.shut_star h7))
/-- It is put back. -/
theorem tp_back {mb q : Nat} {qs : List Nat} {R : List HP} {ls' : List (Int × β)} {v' : β} (hlen : qs.length = ls'.length) (hR : (A q v' :: R).Perm (ownE A ls' qs)) :
    Gh (cel b T [.map (some mb)] :: mapA i64 mb (ptrE ls' qs) :: A q v' :: starH R :: rest) (tpA T A b ls' :: rest) := Gh.mk fun F w hl => by
  have h1 : Holds (starH R :: A q v' :: cel b T [.map (some mb)] :: mapA i64 mb (ptrE ls' qs) :: rest) F w := Tk.use (pre := [starH R, A q v', cel b T [.map (some mb)], mapA i64 mb (ptrE ls' qs)]) (by repeat (first | exact Tk.nil | apply Tk.cons (by repeat (first | exact Pk.here | apply Pk.next)))) hl
  have h2 : Holds ((A q v' :: R) ++ cel b T [.map (some mb)] :: mapA i64 mb (ptrE ls' qs) :: rest) F w := (Holds.open_star h1).perm List.perm_middle
  have h3 := Holds.shut_star (h2.perm (hR.append_right _))
  have h4 := Holds.shut_pure hlen h3
  exact Gh.use (Gh.shut (f := tpL T A b ls') (mb, qs) (rest := rest) (by repeat (first | exact Tk.nil | apply Tk.cons (by repeat (first | exact Pk.here | apply Pk.next))))) h4
theorem tp_new {mb q : Nat} {qs : List Nat} {v : β} (hlen : qs.length = ls.length) (hn : alook ls k = none) :
    Gh (cel b T [.map (some mb)] :: mapA i64 mb (aset (ptrE ls qs) k (.pointer (some ⟨q, 0, none⟩))) :: A q v :: starH (ownE A ls qs) :: rest) (tpA T A b (aset ls k v) :: rest) := by
  rw [aset_new (ptrE_none hlen hn), aset_new hn, ← ptrE_snoc k v q hlen]
  refine tp_back (ls' := ls ++ [(k, v)]) (by simp [hlen]) ?_
  rw [ownE_snoc A k v q hlen]
  exact List.perm_append_comm (l₁ := [_])
/-- A table of nothing. -/
theorem tp_nil {mb : Nat} : Gh (cel b T [.map (some mb)] :: mapA i64 mb [] :: rest) (tpA T A b [] :: rest) := Gh.mk fun F w hl => by
  have h1 : Holds (starH ([] : List HP) :: cel b T [.map (some mb)] :: mapA i64 mb [] :: rest) F w := Holds.shut_star (l := []) hl
  have h2 := Holds.shut_pure (φ := ([] : List Nat).length = ([] : List (Int × β)).length) rfl h1
  exact Gh.use (Gh.shut (f := tpL T A b []) (mb, []) (rest := rest) (by repeat (first | exact Tk.nil | apply Tk.cons (by repeat (first | exact Pk.here | apply Pk.next))))) h2
end
end Go.Proofs.YtomijhgicennbaaGreat
namespace Go.Proofs.YtomijhgicennbaaGreat
open Go
set_option maxHeartbeats 4000000
set_option linter.unusedSimpArgs false
set_option linter.unusedVariables false
set_option maxRecDepth 20000
namespace Tabmsg
abbrev tabA (b mb : Nat) (es : List (Int × Value)) : List HP := [cel b 126 [.map (some mb)], mapA i64 mb es]
theorem new_ok : Trip Tryz.prog 42 [] [] (fun r l => ∃ b mb, r = vp b 0 ∧ l = tabA b mb []) := by
  refine Trip.of_body Tryz.func42 rfl Tryz.ntmps42 Tryz.results42 rfl ?_
  refine Wsr (Ls (Rdo.assign rfl) (Lnt (Wsr ?_)))
  (refine WpL.step (Stp.makeMap0 i64 rfl ?_); intro nb7)
  refine Ls (Rdo.bld rfl (BldL.cons rfl (VC.m _) (by first | rfl | assumption | (simp <;> done)) (by repeat (first | exact LPut.nil _ | (refine LPut.seg ?_; first | assumption | (simp <;> done)) | (refine LPut.segEnd ?_; first | assumption | (simp <;> done)) | (with_reducible apply LPut.here) | apply LPut.hereL | apply LPut.here | (apply LPut.over32; focus (first | assumption | (simp <;> done))) | (with_reducible apply LPut.next) | apply LPut.nextL | apply LPut.next)) (BldL.nil _))) ?_
  (refine WpL.step (Stp.boxV rfl (VC.ag _) rfl ?_); intro nb9)
  refine Ls (Rdo.assign rfl) (Lnt (Wp.ret ?_))
  refine Rt (ResV.tmp rfl ResV.nil) ⟨_, ⟨_, ⟨rfl, rfl⟩⟩⟩
theorem set_ok (b mb : Nat) (es : List (Int × Value)) (k : Int) (cs : List Value) (hl : cs.length = 39) (ho : oneCells cs) : Trip Tryz.prog 85 [vp b 0, vi k, .agg cs.toArray] (tabA b mb es) (fun r l => r = .tuple #[] ∧ l = tabA b mb (aset es k (.agg cs.toArray))) := by
  refine Trip.of_body Tryz.func85 rfl Tryz.ntmps85 Tryz.results85 rfl ?_
  refine Wsr ?_
  (refine WpL.step (Stp.boxV rfl (VC.ag _) rfl ?_); intro nb2)
  refine Lnt (Wsr (Ls (Rdo.move rfl) (Ls (Rdo.nenil rfl rfl) (Lnt ?_))))
  refine Wp.condT rfl ?_
  refine Wp.draw (by kernel_rfl) ?_
  refine Qt (i := 0) rfl (Rdo.move rfl) (Qt (i := 1) rfl (Rdo.nilCheck rfl) (Qt (i := 2) rfl (Rdo.fieldAddr0 rfl) (Qt (i := 4) rfl (Rdo.move rfl) ?_)))
  refine WpR.phaseL (m := 1) #[true, true, true, true, true, true, false] 2 _ rfl (by kernel_rfl) Tk.rfl_ ?_
  refine At (i := 3) rfl (Rdo.load rfl (Lds.next (Lds.one rfl))) ?_
  refine At (i := 5) rfl (Rdo.load rfl Ld) ?_
  refine WpA.stop (by kernel_rfl) ?_
  refine WpR.lst (by simp only [List.cons_append, List.nil_append, List.append_nil]; exact rfl) ?_
  refine Qo (i := 6) rfl (Stp.mapUpdate rfl rfl rfl (by repeat (first | exact Pk.here | apply Pk.next)) ?_)
  refine WpR.done (by kernel_rfl) ?_
  refine Ret.end_ ResV.nil Gk ⟨rfl, rfl⟩
theorem get_no (b mb : Nat) (es : List (Int × Value)) (k : Int) (h : alook es k = none) : Trip Tryz.prog 84 [vp b 0, vi k] (tabA b mb es)
    (fun r l => r = .tuple #[(.agg (msgC 0 0 0 0 0 vnil vnil hash0).toArray), vb false] ∧ l = tabA b mb es) := by
  obtain ⟨zc, hzc⟩ : ∃ zc, zc = msgC 0 0 0 0 0 vnil vnil hash0 := ⟨_, rfl⟩
  have hl : zc.length = 39 := by rw [hzc]; rfl
  have ho : oneCells zc := by rw [hzc]; exact oneCells_msgC rfl rfl
  have h1 : ∀ z, z = Value.agg zc.toArray → mapVal es k z = Value.agg zc.toArray := fun z hz => by unfold mapVal; rw [h]; exact hz
  have h2 : (alook es k).isSome = false := by rw [h]; rfl
  rw [← hzc]
  refine Trip.of_body Tryz.func84 rfl Tryz.ntmps84 Tryz.results84 rfl ?_
  refine Wsr ?_
  (refine WpL.step (Stp.alloc rfl ?_); intro nb2)
  refine Ls (Rdo.assign rfl) (Lnt (Wp.seq (Wsr (Ls (Rdo.move rfl) (Ls (Rdo.eqnil rfl rfl) (Lnt ?_))))))
  refine Wp.condF rfl ?_
  refine Wp.skip (Thn.n (Wsr (Ls (Rdo.move rfl) (Ls (Rdo.nilCheck rfl) (Ls (Rdo.fieldAddr0 rfl) (Ls (Rdo.load rfl (Lds.next (Lds.one rfl))) (Ls (Rdo.move rfl) (Ls (Rdo.lookup2 rfl rfl (Mps.next (Mps.next Mps.here))) (Ls (Rdo.move rfl) (Ls (Rdo.extract rfl rfl) (Ls (Rdo.extract rfl rfl) ?_)))))))))))
  rw [h1 _ (by rw [hzc]; rfl), h2]
  refine WpL.step (St rfl rfl (VC.ag _) ?_)
  refine Ls (Rdo.assign rfl) (Lnt (Wsr ?_))
  refine Ls (Rdo.load rfl Ld) ?_
  refine Ls (Rdo.move rfl) ?_
  refine WpL.step (St rfl rfl (VC.ag _) ?_)
  refine Ls (Rdo.assign rfl) (Lnt (Wp.ret ?_))
  refine Rt (ResV.cell rfl (by repeat (first | exact Lds.one rfl | (apply Lds.all; (first | rfl | assumption | (simp <;> fail))) | exact Lds.ione0 | exact Lds.ione rfl | (apply Lds.iall; (first | rfl | assumption | (simp <;> fail))) | apply Lds.next)) (ResV.tmp rfl ResV.nil)) ⟨rfl, rfl⟩
theorem get_yes (b mb : Nat) (es : List (Int × Value)) (k : Int) (cs : List Value) (hl : cs.length = 39) (ho : oneCells cs) (h : alook es k = some (.agg cs.toArray)) : Trip Tryz.prog 84 [vp b 0, vi k] (tabA b mb es)
    (fun r l => r = .tuple #[.agg cs.toArray, vb true] ∧ l = tabA b mb es) := by
  have h1 : ∀ z, mapVal es k z = .agg cs.toArray := fun z => by unfold mapVal; rw [h]; rfl
  have h2 : (alook es k).isSome = true := by rw [h]; rfl
  refine Trip.of_body Tryz.func84 rfl Tryz.ntmps84 Tryz.results84 rfl ?_
  refine Wsr ?_
  (refine WpL.step (Stp.alloc rfl ?_); intro nb2)
  refine Ls (Rdo.assign rfl) (Lnt (Wp.seq (Wsr (Ls (Rdo.move rfl) (Ls (Rdo.eqnil rfl rfl) (Lnt ?_))))))
  refine Wp.condF rfl ?_
  refine Wp.skip (Thn.n (Wsr (Ls (Rdo.move rfl) (Ls (Rdo.nilCheck rfl) (Ls (Rdo.fieldAddr0 rfl) (Ls (Rdo.load rfl (Lds.next (Lds.one rfl))) (Ls (Rdo.move rfl) (Ls (Rdo.lookup2 rfl rfl (Mps.next (Mps.next Mps.here))) (Ls (Rdo.move rfl) (Ls (Rdo.extract rfl rfl) (Ls (Rdo.extract rfl rfl) ?_)))))))))))
  rw [h1, h2]
  refine WpL.step (St rfl rfl (VC.ag _) ?_)
  refine Ls (Rdo.assign rfl) (Lnt (Wsr ?_))
  refine Ls (Rdo.load rfl Ld) ?_
  refine Ls (Rdo.move rfl) ?_
  refine WpL.step (St rfl rfl (VC.ag _) ?_)
  refine Ls (Rdo.assign rfl) (Lnt (Wp.ret ?_))
  refine Rt (ResV.cell rfl (by repeat (first | exact Lds.one rfl | (apply Lds.all; (first | rfl | assumption | (simp <;> fail))) | exact Lds.ione0 | exact Lds.ione rfl | (apply Lds.iall; (first | rfl | assumption | (simp <;> fail))) | apply Lds.next)) (ResV.tmp rfl ResV.nil)) ⟨rfl, rfl⟩
theorem len_ok (b mb : Nat) (es : List (Int × Value)) : Trip Tryz.prog 157 [vp b 0] (tabA b mb es) (fun r l => r = vi es.length ∧ l = tabA b mb es) := by
  refine Trip.of_body Tryz.func157 rfl Tryz.ntmps157 Tryz.results157 rfl ?_
  refine Wsr (Ls (Rdo.assign rfl) (Lnt (Wp.seq (Wsr (Ls (Rdo.move rfl) (Ls (Rdo.eqnil rfl rfl) (Lnt ?_)))))))
  refine Wp.condF rfl ?_
  refine Wp.skip (Thn.n (Wsr (Ls (Rdo.move rfl) (Ls (Rdo.nilCheck rfl) (Ls (Rdo.fieldAddr0 rfl) (Ls (Rdo.load rfl (Lds.one rfl)) (Ls (Rdo.lenMap rfl (Mps.next Mps.here)) (Ls (Rdo.assign rfl) (Lnt (Wp.ret ?_))))))))))
  refine Rt (ResV.tmp rfl ResV.nil) ⟨rfl, rfl⟩
theorem cloneF : ExtF Tryz.prog 192 Extern.MapsClone.clone := ExtF.mk Tryz.func192 (by kernel_rfl) (by kernel_rfl) (by kernel_rfl) (by kernel_rfl)
theorem clone_ok (mb : Nat) (es : List (Int × Value)) : Trip Tryz.prog 198 [.map (some mb)] [mapA i64 mb es] (fun r l => ∃ m', r = .map (some m') ∧ l = [mapA i64 mb es, mapA i64 m' es]) := by
  refine Trip.of_body Tryz.func198 rfl Tryz.ntmps198 Tryz.results198 rfl ?_
  refine Wsr (Ls (Rdo.assign rfl) (Lnt (Wp.seq (Wsr (Ls (Rdo.move rfl) (Ls (Rdo.eqmapnil rfl rfl) (Lnt ?_)))))))
  refine Wp.condF rfl ?_
  refine Wp.skip (Thn.n (Wsr (Ls (Rdo.move rfl) (Ls (Rdo.mkIface rfl) ?_))))
  refine WpL.step (Stp.mapsClone cloneF rfl Pk.here rfl ?_)
  intro m'
  refine Ls (Rdo.assertMap rfl) (Ls (Rdo.assign rfl) (Lnt (Wp.ret ?_)))
  refine Rt (ResV.tmp rfl ResV.nil) ⟨_, ⟨rfl, rfl⟩⟩
theorem keys_ok (mb : Nat) : Trip Tryz.prog 199 [.map (some mb)] [] (fun r l => ∃ c, r = .func (.func 220) #[] [vp c 0].toArray ∧ l = [cel c 124 [.map (some mb)]]) := by
  refine Trip.of_body Tryz.func199 rfl Tryz.ntmps199 Tryz.results199 rfl ?_
  refine Wsr ?_
  (refine WpL.step (Stp.boxV rfl (VC.m _) rfl ?_); intro nb2)
  refine Ls (Rdo.assign rfl) (Lnt (Wsr (Ls (Rdo.makeFunc rfl) (Ls (Rdo.assign rfl) (Lnt (Wp.ret ?_))))))
  refine Rt (ResV.tmp rfl ResV.nil) ⟨_, ⟨rfl, rfl⟩⟩
/-- The iterator over a map's keys: in whatever order. -/
theorem keysIter (c mb : Nat) (tc : TypeId) (es : List (Int × Value)) : IterOK Tryz.prog 220 [vp c 0] (fun k : Int => [vi k]) [] [cel c tc [.map (some mb)], mapA i64 mb es] (fun xs => xs.Perm (akeys es)) := by
  intro Y J Jx hY l0 h0 _
  refine Trip.gh (l' := [cel c tc [.map (some mb)], mapA i64 mb es] ++ l0) (Gh.perm List.perm_append_comm) ?_
  refine Trip.get (Pk.next Pk.here) mapA_nodup ?_
  intro hnd
  refine Trip.of_body Tryz.func220 rfl Tryz.ntmps220 Tryz.results220 rfl ?_
  refine Wsr (Ls (Rdo.load rfl (Lds.one rfl)) ?_)
  refine WpL.step (Stp.rangeMap rfl (Pk.next Pk.here) rfl ?_)
  intro it
  refine Lnt (Wp.block ?_)
  refine Wp.loopE (fun k e h => ∃ (done : List Int) (l1 : List HP), done.length + k = es.length ∧ done.Nodup ∧ (∀ x ∈ done, x ∈ akeys es) ∧ J done l1 ∧ e = [(0, Y), (5, vp it 0)] ∧ h = mapItA i64 mb it es done :: cel c tc [.map (some mb)] :: l1) es.length
    (e0 := [(0, Y), (5, vp it 0)]) (l0 := mapItA i64 mb it es [] :: cel c tc [.map (some mb)] :: l0) (by repeat (first | exact trivial | refine ⟨rfl, ?_⟩)) (by repeat (first | exact trivial | refine ⟨rfl, ?_⟩)) Gh.rfl_ ⟨[], l0, by simp, List.nodup_nil, by simp, h0, rfl, rfl⟩ ?_
  rintro k e h ⟨done, l1, hk, hdn, hsub, hJ, rfl, rfl⟩
  refine Wsr ?_
  refine WpL.step (Stp.nextMap rfl Pk.here rfl ?_ ?_)
  · intro hall
    have hp : done.Perm (akeys es) := (List.perm_ext_iff_of_nodup hdn hnd).2 fun a => ⟨hsub a, hall a⟩
    refine Ls (Rdo.extract rfl rfl) (Lnt (Wp.seq ?_))
    refine Wp.condF rfl ?_
    refine Wp.exit ?_
    refine Thn.x ?_
    refine Thn.x ?_
    refine Blk.here ?_
    refine Ret.end_ ResV.nil (l' := l1 ++ [cel c tc [.map (some mb)], mapA i64 mb es]) ?_ (.inl ⟨done, l1, hp, hJ, rfl⟩)
    refine Gh.trans (Gh.it_done Pk.here) (Gh.perm ?_)
    exact (List.perm_append_comm (l₁ := [mapA i64 mb es, cel c tc [.map (some mb)]]) (l₂ := l1)).trans (List.Perm.append_left l1 (List.Perm.swap _ _ _))
  · intro x u hx hn
    refine Ls (Rdo.extract rfl rfl) (Lnt (Wp.seq ?_))
    refine Wp.condT rfl ?_
    refine Wp.skip (Thn.n (Wp.block (Wsr ?_)))
    refine Ls (Rdo.entryMap rfl (by assumption)) ?_
    refine Ls (Rdo.extract rfl rfl) (Ls (Rdo.assign rfl) (Lnt (Wsr (Ls (Rdo.move rfl) (Ls (Rdo.move rfl) ?_)))))
    have hxk : x ∈ akeys es := List.mem_map.2 ⟨_, hx, rfl⟩
    have hnd2 : (done ++ [x]).Nodup := by
      rw [List.nodup_append]
      exact ⟨hdn, by simp, fun a ha b hb e => hn (by simp only [List.mem_singleton] at hb; rw [← hb, ← e]; exact ha)⟩
    have hsub2 : ∀ y ∈ done ++ [x], y ∈ akeys es := by
      intro y hy
      rcases List.mem_append.1 hy with hy | hy
      · exact hsub y hy
      · simp only [List.mem_singleton] at hy; rw [hy]; exact hxk
    obtain ⟨rest, hrest⟩ : ∃ rest, (done ++ x :: rest).Perm (akeys es) := by
      obtain ⟨rest, hr⟩ := complete_ hnd2 hnd hsub2
      exact ⟨rest, by rw [show done ++ x :: rest = (done ++ [x]) ++ rest by simp]; exact hr⟩
    refine WpL.step (Stp.callV rfl rfl (hY done x rest l1 hrest hJ) (Tk.tail (A := [_, _])) rfl ?_)
    rintro r l2 (⟨rfl, hJ2⟩ | ⟨rfl, hJ2⟩)
    · refine WpL.gh (Gh.perm List.perm_append_comm) ?_
      refine Ll ?_
      refine Ls (Rdo.not rfl) (Lnt ?_)
      refine Wp.condF rfl ?_
      refine Wp.skip (Blk.n (Thn.n ?_))
      have hlt : done.length < es.length := by
        have := hrest.length_eq
        simp [akeys] at this
        omega
      refine ⟨k - 1, _, _, by omega, ⟨done ++ [x], l2, by simp; omega, hnd2, hsub2, hJ2, rfl, rfl⟩, (by repeat (first | exact trivial | refine ⟨rfl, ?_⟩)), Gh.rfl_⟩
    · refine WpL.gh (Gh.perm List.perm_append_comm) ?_
      refine Ll ?_
      refine Ls (Rdo.not rfl) (Lnt ?_)
      refine Wp.condT rfl ?_
      refine Wp.ret ?_
      refine Blk.r ?_
      refine Thn.r ?_
      refine Blk.r ?_
      refine Ret.now ResV.nil (l' := l2 ++ [cel c tc [.map (some mb)], mapA i64 mb es]) ?_ (.inr ⟨_, l2, hJ2, rfl⟩)
      refine Gh.trans (Gh.it_done Pk.here) (Gh.perm ?_)
      exact (List.perm_append_comm (l₁ := [mapA i64 mb es, cel c tc [.map (some mb)]]) (l₂ := l2)).trans (List.Perm.append_left l2 (List.Perm.swap _ _ _))
theorem ranged_ok (b : Nat) (m : Value) (hm : m.oneCell' = true) : Trip Tryz.prog 182 [vp b 0, m] [] (fun r l => ∃ c1 c2, r = .func (.func 197) #[] [vp c1 0, vp c2 0].toArray ∧ l = [cel c2 68 [m], cel c1 91 [vp b 0]]) := by
  refine Trip.of_body Tryz.func182 rfl Tryz.ntmps182 Tryz.results182 rfl ?_
  refine Wsr ?_
  (refine WpL.step (Stp.boxV rfl (VC.p _) rfl ?_); intro nb2)
  (refine WpL.step (Stp.boxV rfl (VC.one (by first | assumption | rfl)) rfl ?_); intro nb3)
  refine Ls (Rdo.assign rfl) (Lnt (Wsr (Ls (Rdo.makeFunc rfl) (Ls (Rdo.assign rfl) (Lnt (Wp.ret ?_))))))
  refine Rt (ResV.tmp rfl ResV.nil) ⟨_, ⟨_, ⟨rfl, rfl⟩⟩⟩
theorem all_ok (b : Nat) : Trip Tryz.prog 158 [vp b 0] [] (fun r l => ∃ c1 c2, r = .func (.func 197) #[] [vp c1 0, vp c2 0].toArray ∧ l = [cel c2 68 [.func (.func 183) #[] #[]], cel c1 91 [vp b 0]]) := by
  refine Trip.of_body Tryz.func158 rfl Tryz.ntmps158 Tryz.results158 rfl ?_
  refine Wsr (Ls (Rdo.assign rfl) (Lnt (Wsr (Ls (Rdo.move rfl) ?_))))
  refine WpL.step (Sc (Tabmsg.ranged_ok _ _ (by first | rfl | assumption | omega | (simp <;> done) | (simp <;> omega) | (simp [IntKind.bits]; omega) | simp_all)) rfl ?_)
  rintro _ _ ⟨v9_0, ⟨v9_1, ⟨rfl, rfl⟩⟩⟩
  refine Ll ?_
  refine Ls (Rdo.assign rfl) (Lnt (Wp.ret ?_))
  refine Rt (ResV.tmp rfl ResV.nil) ⟨_, ⟨_, ⟨rfl, rfl⟩⟩⟩
theorem all1_ok (k : Int) : Trip Tryz.prog 183 [vi k] [] (fun r l => r = vb true ∧ l = []) := by
  refine Trip.of_body Tryz.func183 rfl Tryz.ntmps183 Tryz.results183 rfl ?_
  refine Wsr (Ls (Rdo.assign rfl) (Lnt (Wsr (Ls (Rdo.assign rfl) (Lnt (Wp.ret ?_))))))
  refine Rt (ResV.tmp rfl ResV.nil) ⟨rfl, rfl⟩
theorem look_mem {es ss : List (Int × Value)} (hp : ss.Perm es) (hn : (akeys es).Nodup) {k : Int} {v : Value} (h : (k, v) ∈ ss) : alook es k = some v := alook_of_mem hn (hp.mem_iff.1 h)
/-- A table is gone over by rising keys, as it was when one began. -/
theorem allIter (c1 c2 b mb : Nat) (t1 t2 : TypeId) (es ss : List (Int × Value)) (hp : ss.Perm es) (hs : (akeys ss).Pairwise (· ≤ ·)) (hl : es.length ≤ 12) :
    IterOK Tryz.prog 197 [vp c1 0, vp c2 0] (fun x : Int × Value => [vi x.1, x.2]) (tabA b mb es)
      [cel c2 t2 [.func (.func 183) #[] #[]], cel c1 t1 [vp b 0]] (fun xs => xs = ss) := by
  intro Y J Jx hY l0 h0 hsee
  have hsl : ss.length = es.length := hp.length_eq
  obtain ⟨K, hb1, hb2⟩ := hsee
  refine Trip.gh (l' := [cel c2 t2 [.func (.func 183) #[] #[]], cel c1 t1 [vp b 0]] ++ l0) (Gh.perm List.perm_append_comm) ?_
  refine Trip.gh (l' := cel c2 t2 [.func (.func 183) #[] #[]] :: cel c1 t1 [vp b 0] :: cel b 126 [.map (some mb)] :: mapA i64 mb es :: K) (Gh.frame [_, _] hb1) ?_
  refine Trip.get (Pk.next (Pk.next (Pk.next Pk.here))) mapA_nodup ?_
  intro hnd
  refine Trip.of_body Tryz.func197 rfl Tryz.ntmps197 Tryz.results197 rfl ?_
  refine Wp.seq (Wsr (Ls (Rdo.load rfl (Lds.next (Lds.one rfl))) (Ls (Rdo.eqnil rfl rfl) (Lnt ?_))))
  refine Wp.condF rfl ?_
  refine Wp.skip (Thn.n (Wsr (Ls (Rdo.load rfl (Lds.next (Lds.one rfl))) (Ls (Rdo.nilCheck rfl) (Ls (Rdo.fieldAddr0 rfl) (Ls (Rdo.load rfl (Lds.next (Lds.next (Lds.one rfl)))) ?_))))))
  refine WpL.step (Sc (Tabmsg.clone_ok _ _) rfl ?_)
  rintro _ _ ⟨v17_0, ⟨rfl, rfl⟩⟩
  refine Ll ?_
  refine Ls (Rdo.assign rfl) (Lnt (Wsr (Ls (Rdo.move rfl) ?_)))
  refine WpL.step (Sc (Tabmsg.keys_ok _) rfl ?_)
  rintro _ _ ⟨v26_0, ⟨rfl, rfl⟩⟩
  refine Ll ?_
  have hkl : (akeys ss).length = es.length := by simp [akeys, hsl]
  refine WpL.step (Stp.call (sorted_ok 220 [vp _ 0] [cel _ _ [.map (some _)], mapA i64 _ es] (akeys ss) (by omega) hs (by kernel_rfl) ((keysIter _ _ _ es).perm (hp.symm.map _))) (by kernel_rfl) rfl (Tk.cons Pk.here (Tk.cons (Pk.next Pk.here) Tk.nil)) rfl ?_)
  rintro r _ rfl
  refine Ll ?_
  refine WpL.get Pk.here (fun r => rowA_shape) ?_
  rintro ⟨a0, c0, rfl⟩
  refine Ls (Rdo.lenSlice rfl) (Ls (Rdo.move rfl) (Lnt (Wp.block ?_)))
  generalize hN : (akeys ss).length = N
  refine Wp.loopE (fun k e h => ∃ (i : Nat) (l1 : List HP), i + k = N ∧ J (ss.take i) l1 ∧ e = [(0, Y), (2, vp c2 0), (4, .map (some v17_0)), (16, .slice a0 N c0), (17, vi N), (18, vi i)] ∧
      h = rowA 3 1 (.slice a0 N c0) N ((akeys ss).map vi) :: mapA i64 v17_0 es :: cel c2 t2 [.func (.func 183) #[] #[]] :: cel c1 t1 [vp b 0] :: l1) N
    (e0 := [(0, Y), (2, vp c2 0), (4, .map (some v17_0)), (16, .slice a0 N c0), (17, vi N), (18, vi (0 : Nat))])
    (l0 := rowA 3 1 (.slice a0 N c0) N ((akeys ss).map vi) :: mapA i64 v17_0 es :: cel c2 t2 [.func (.func 183) #[] #[]] :: cel c1 t1 [vp b 0] :: l0) (by rw [← hN]; exact (by repeat (first | exact trivial | refine ⟨rfl, ?_⟩))) (by repeat (first | exact trivial | refine ⟨rfl, ?_⟩)) ?_ ⟨0, l0, by omega, h0, rfl, rfl⟩ ?_
  · rw [← hN]
    refine Gh.trans (Gh.drop (Pk.next Pk.here)) ?_
    refine Gh.trans (Gh.perm (?_ : List.Perm _ ([rowA 3 1 (.slice a0 (akeys ss).length c0) (akeys ss).length ((akeys ss).map vi), mapA i64 v17_0 es, cel c2 t2 [.func (.func 183) #[] #[]], cel c1 t1 [vp b 0]] ++ (tabA b mb es ++ K)))) (Gh.frame _ hb2)
    · (
        refine List.Perm.cons _ (List.Perm.cons _ ?_)
        refine (List.Perm.swap _ _ _).trans (List.Perm.cons _ ?_)
        refine (List.Perm.swap _ _ _).trans (List.Perm.cons _ ?_)
        exact List.Perm.swap _ _ _)
  rintro k e h ⟨i, l1, hik, hJ, rfl, rfl⟩
  by_cases hi : i < N
  · refine Wp.get Pk.here (fun r => rowA_at i hi) ?_
    rintro ⟨bb, oo, cap, he⟩
    simp only [Value.slice.injEq, true_and] at he
    obtain ⟨rfl, rfl⟩ := he
    have his : i < ss.length := by simpa [akeys, ← hN] using hi
    obtain ⟨⟨x, u⟩, hxu⟩ : ∃ p, ss[i]? = some p := ⟨ss[i], List.getElem?_eq_getElem his⟩
    have hx : ((akeys ss).map vi)[i]? = some (vi x) := by simp [akeys, hxu]
    have hmv : ∀ z, mapVal es x z = u := fun z => by
      unfold mapVal
      rw [look_mem hp hnd (List.mem_of_getElem? hxu)]
      rfl
    have hsplit : ss.take i ++ (x, u) :: ss.drop (i + 1) = ss := by
      obtain ⟨h1, h2⟩ := List.getElem?_eq_some_iff.1 hxu
      rw [← h2, ← List.drop_eq_getElem_cons h1, List.take_append_drop]
    have htk : ss.take i ++ [(x, u)] = ss.take (i + 1) := by
      obtain ⟨h1, h2⟩ := List.getElem?_eq_some_iff.1 hxu
      rw [← h2, List.take_succ_eq_append_getElem h1]
    refine Wsr (Ls (Rdo.lti rfl rfl) (Lnt (Wp.seq (cK rfl (Wp.skip (Thn.n (Wp.seq (Wp.block (Wsr ?_)))))))))
    refine Ls (Rdo.indexSlice rfl rfl (by omega)) ?_
    refine Ls (Rdo.load rfl (Lds.row1 (by assumption))) ?_
    refine Ls (Rdo.assign rfl) (Lnt (Wsr (Ls (Rdo.load rfl (Lds.next (Lds.next (Lds.one rfl)))) (Ls (Rdo.move rfl) ?_))))
    refine WpL.step (Stp.callv rfl (by kernel_rfl) rfl (Tabmsg.all1_ok _) (by repeat (first | exact Tk.nil | apply Tk.cons (by repeat (first | exact Pk.here | apply Pk.next)))) rfl ?_)
    rintro _ _ ⟨rfl, rfl⟩
    refine Ll ?_
    refine Ls (Rdo.move rfl) (Lw rfl rfl (Rdo.move rfl) (Lw rfl rfl (Rdo.move rfl) (Lw rfl rfl (Rdo.move rfl) (Lw rfl rfl (Rdo.move rfl) (Lw rfl rfl (Rdo.lookup1 rfl rfl (Mps.next Mps.here)) ?_)))))
    rw [hmv]
    refine WpL.want rfl rfl rfl (Stp.callV rfl rfl (hY (ss.take i) (x, u) _ l1 hsplit hJ) (Tk.tail (A := [_, _, _, _])) rfl ?_)
    rw [htk]
    rintro r l2 (⟨rfl, hJ2⟩ | ⟨rfl, hJ2⟩)
    · refine WpL.gh (Gh.perm List.perm_append_comm) ?_
      refine Ll ?_
      refine Lw rfl rfl (Rdo.not rfl) (Ls (Rdo.pick_t rfl rfl) (Lnt ?_))
      refine Wp.condF rfl ?_
      refine Wp.skip (Blk.n (Thn.n (Wp.region ?_)))
      refine Ls (Rdo.succ rfl rfl (by omega)) ?_
      refine Ls (Rdo.move rfl) (Lnt ?_)
      refine ⟨k - 1, _, _, by omega, ⟨i + 1, l2, by omega, hJ2, rfl, rfl⟩, (by repeat (first | exact trivial | refine ⟨rfl, ?_⟩)), Gh.rfl_⟩
    · refine WpL.gh (Gh.perm List.perm_append_comm) ?_
      refine Ll ?_
      refine Lw rfl rfl (Rdo.not rfl) (Ls (Rdo.pick_t rfl rfl) (Lnt ?_))
      refine Wp.condT rfl ?_
      refine Wp.ret ?_
      refine Blk.r ?_
      refine Thn.r ?_
      refine Thn.r ?_
      refine Blk.r ?_
      exact Ret.now ResV.nil (Gh.trans (Gh.drop Pk.here) (Gh.trans (Gh.drop Pk.here) (Gh.perm (List.perm_append_comm (l₁ := [_, _]) (l₂ := l2))))) (.inr ⟨_, l2, hJ2, rfl⟩)
  · refine Wsr (Ls (Rdo.lti rfl rfl) (Lnt (Wp.seq (cL rfl ?_))))
    refine Wp.exit ?_
    refine Thn.x ?_
    refine Thn.x ?_
    refine Blk.here ?_
    have hfull : ss.take i = ss := List.take_of_length_le (by simp [akeys] at hN; omega)
    rw [hfull] at hJ
    exact Ret.end_ ResV.nil (Gh.trans (Gh.drop Pk.here) (Gh.trans (Gh.drop Pk.here) (Gh.perm (List.perm_append_comm (l₁ := [_, _]) (l₂ := l1))))) (.inl ⟨ss, l1, rfl, hJ, rfl⟩)
end Tabmsg
end Go.Proofs.YtomijhgicennbaaGreat
