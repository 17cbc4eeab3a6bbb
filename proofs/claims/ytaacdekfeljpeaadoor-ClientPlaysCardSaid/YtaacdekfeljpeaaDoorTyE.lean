/- The types of this seat's program whose values can be compared, each shown by the kernel. Written by gen_ty.py. -/
import Derived.Test.YtaacdekfeljpeaaDoorTy
import Derived.Test.YtaacdekfeljpeaaDoorEqv
namespace Go.Proofs.YtaacdekfeljpeaaDoor
open Go
-- 24: api.Reply
instance : CKS Tryd.prog 24 ([.i .i64, .i .i64, .i .i64]) := ⟨by kernel_rfl, by kernel_rfl, by kernel_rfl⟩
-- 29: api.Op
instance : CKS Tryd.prog 29 ([.i .i64, .i .i64, .i .i64, .s, .i .i64, .i .i64, .i .i64, .i .i64, .b]) := ⟨by kernel_rfl, by kernel_rfl, by kernel_rfl⟩
-- 90: [256]bool
instance : CKS Tryd.prog 90 (List.replicate 256 (.b)) := ⟨by kernel_rfl, by kernel_rfl, by kernel_rfl⟩
-- 118: [256]uint8
instance : CKS Tryd.prog 118 (List.replicate 256 (.i .u8)) := ⟨by kernel_rfl, by kernel_rfl, by kernel_rfl⟩
-- 122: [16]utf8.acceptRange
instance : CKS Tryd.prog 122 (List.replicate 32 (.i .u8)) := ⟨by kernel_rfl, by kernel_rfl, by kernel_rfl⟩
end Go.Proofs.YtaacdekfeljpeaaDoor
