/- The types of this seat's program whose values can be compared, each shown by the kernel. Written by gen_ty.py. -/
import Derived.Test.YtmeaekcengmfbaaTy
import Derived.Test.YtmeaekcengmfbaaEqv
namespace Go.Proofs.Ytmeaekcengmfbaa
open Go
-- 27: [32]uint8
instance : CKS Try.prog 27 (List.replicate 32 (.i .u8)) := ⟨by kernel_rfl, by kernel_rfl, by kernel_rfl⟩
-- 28: api.Hash
instance : CKS Try.prog 28 (List.replicate 32 (.i .u8)) := ⟨by kernel_rfl, by kernel_rfl, by kernel_rfl⟩
-- 48: api.Vote
instance : CKS Try.prog 48 ([.i .i64, .i .i64, .i .i64] ++ (List.replicate 32 (.i .u8) ++ ([.i .i64] ++ (List.replicate 32 (.i .u8))))) := ⟨by kernel_rfl, by kernel_rfl, by kernel_rfl⟩
end Go.Proofs.Ytmeaekcengmfbaa
