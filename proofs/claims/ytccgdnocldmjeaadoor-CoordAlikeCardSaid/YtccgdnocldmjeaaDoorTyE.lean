/- The types of this seat's program whose values can be compared, each shown by the kernel. Written by gen_ty.py. -/
import Derived.Test.YtccgdnocldmjeaaDoorTy
import Derived.Test.YtccgdnocldmjeaaDoorEqv
namespace Go.Proofs.YtccgdnocldmjeaaDoor
open Go
-- 27: api.Op
instance : CKS Tryd.prog 27 ([.i .i64, .i .i64, .i .i64, .s, .i .i64, .i .i64, .i .i64, .i .i64, .b]) := ⟨by kernel_rfl, by kernel_rfl, by kernel_rfl⟩
-- 30: api.Reply
instance : CKS Tryd.prog 30 ([.i .i64, .i .i64, .i .i64]) := ⟨by kernel_rfl, by kernel_rfl, by kernel_rfl⟩
-- 36: api.Mark
instance : CKS Tryd.prog 36 ([.i .i64, .i .i64, .i .i64, .i .i64]) := ⟨by kernel_rfl, by kernel_rfl, by kernel_rfl⟩
-- 46: [4]bool
instance : CKS Tryd.prog 46 ([.b, .b, .b, .b]) := ⟨by kernel_rfl, by kernel_rfl, by kernel_rfl⟩
-- 53: [32]uint8
instance : CKS Tryd.prog 53 (List.replicate 32 (.i .u8)) := ⟨by kernel_rfl, by kernel_rfl, by kernel_rfl⟩
-- 54: api.Hash
instance : CKS Tryd.prog 54 (List.replicate 32 (.i .u8)) := ⟨by kernel_rfl, by kernel_rfl, by kernel_rfl⟩
-- 68: coord.asked
instance : CKS Tryd.prog 68 ([.i .i64, .i .i64]) := ⟨by kernel_rfl, by kernel_rfl, by kernel_rfl⟩
-- 98: [8]uint32
instance : CKS Tryd.prog 98 (List.replicate 8 (.i .u32)) := ⟨by kernel_rfl, by kernel_rfl, by kernel_rfl⟩
-- 99: digest.state
instance : CKS Tryd.prog 99 (List.replicate 8 (.i .u32)) := ⟨by kernel_rfl, by kernel_rfl, by kernel_rfl⟩
-- 100: [64]uint32
instance : CKS Tryd.prog 100 (List.replicate 64 (.i .u32)) := ⟨by kernel_rfl, by kernel_rfl, by kernel_rfl⟩
-- 104: [128]uint8
instance : CKS Tryd.prog 104 (List.replicate 128 (.i .u8)) := ⟨by kernel_rfl, by kernel_rfl, by kernel_rfl⟩
-- 129: [256]bool
instance : CKS Tryd.prog 129 (List.replicate 256 (.b)) := ⟨by kernel_rfl, by kernel_rfl, by kernel_rfl⟩
-- 164: [256]uint8
instance : CKS Tryd.prog 164 (List.replicate 256 (.i .u8)) := ⟨by kernel_rfl, by kernel_rfl, by kernel_rfl⟩
-- 167: [16]utf8.acceptRange
instance : CKS Tryd.prog 167 (List.replicate 32 (.i .u8)) := ⟨by kernel_rfl, by kernel_rfl, by kernel_rfl⟩
end Go.Proofs.YtccgdnocldmjeaaDoor
