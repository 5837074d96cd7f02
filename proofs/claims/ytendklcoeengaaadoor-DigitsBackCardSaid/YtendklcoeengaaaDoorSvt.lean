/- The facts on the types of this translation, each by the kernel. Written by gentypes.py. -/
import Derived.Test.YtendklcoeengaaaDoorSvv
import Derived.Test.YtendklcoeengaaaDoorProg
import Derived.KernelRfl
namespace Go.Proofs
open Go Go.Sv
instance : Mixed Tryd.prog := ⟨by kernel_rfl⟩
instance : IsScalar Tryd.prog 1 := isScalar_mk (by kernel_rfl)
instance : HasSize Tryd.prog 1 1 := hasSize_mk (by kernel_rfl)
instance : IsZero Tryd.prog 1 [.nilFunc] := isZero_mk (b := 8) (by kernel_rfl) rfl
instance : IsElem Tryd.prog 1 [.nilFunc] 8 := isElem_mk (by kernel_rfl) rfl (by simp)

instance : IsScalar Tryd.prog 2 := isScalar_mk (by kernel_rfl)
instance : IsInt Tryd.prog 2 .i64 := ⟨by kernel_rfl⟩
instance : HasTy Tryd.prog 2 := ⟨by kernel_rfl⟩
instance : HasSize Tryd.prog 2 1 := hasSize_mk (by kernel_rfl)
instance : IsZero Tryd.prog 2 [.int .i64 0] := isZero_mk (b := 8) (by kernel_rfl) rfl
instance : IsElem Tryd.prog 2 [.int .i64 0] 8 := isElem_mk (by kernel_rfl) rfl (by simp)

instance : IsScalar Tryd.prog 3 := isScalar_mk (by kernel_rfl)
instance : IsInt Tryd.prog 3 .i64 := ⟨by kernel_rfl⟩
instance : HasTy Tryd.prog 3 := ⟨by kernel_rfl⟩
instance : HasSize Tryd.prog 3 1 := hasSize_mk (by kernel_rfl)
instance : IsZero Tryd.prog 3 [.int .i64 0] := isZero_mk (b := 8) (by kernel_rfl) rfl
instance : IsElem Tryd.prog 3 [.int .i64 0] 8 := isElem_mk (by kernel_rfl) rfl (by simp)

instance : IsScalar Tryd.prog 4 := isScalar_mk (by kernel_rfl)
theorem Tryd.isBool4 : Tryd.prog.underlying 4 = some .bool := by kernel_rfl
instance : HasSize Tryd.prog 4 1 := hasSize_mk (by kernel_rfl)
instance : IsZero Tryd.prog 4 [.bool false] := isZero_mk (b := 1) (by kernel_rfl) rfl
instance : IsElem Tryd.prog 4 [.bool false] 1 := isElem_mk (by kernel_rfl) rfl (by simp)

instance : IsScalar Tryd.prog 5 := isScalar_mk (by kernel_rfl)
instance : IsInt Tryd.prog 5 .u8 := ⟨by kernel_rfl⟩
instance : HasTy Tryd.prog 5 := ⟨by kernel_rfl⟩
instance : HasSize Tryd.prog 5 1 := hasSize_mk (by kernel_rfl)
instance : IsZero Tryd.prog 5 [.int .u8 0] := isZero_mk (b := 1) (by kernel_rfl) rfl
instance : IsElem Tryd.prog 5 [.int .u8 0] 1 := isElem_mk (by kernel_rfl) rfl (by simp)

instance : IsScalar Tryd.prog 9 := isScalar_mk (by kernel_rfl)
instance : IsStr Tryd.prog 9 := ⟨by kernel_rfl⟩
instance : HasSize Tryd.prog 9 1 := hasSize_mk (by kernel_rfl)
instance : IsZero Tryd.prog 9 [.string ⟨#[]⟩] := isZero_mk (b := 16) (by kernel_rfl) rfl
instance : IsElem Tryd.prog 9 [.string ⟨#[]⟩] 16 := isElem_mk (by kernel_rfl) rfl (by simp)

instance : IsScalar Tryd.prog 12 := isScalar_mk (by kernel_rfl)
instance : IsInt Tryd.prog 12 .u64 := ⟨by kernel_rfl⟩
instance : HasTy Tryd.prog 12 := ⟨by kernel_rfl⟩
instance : HasSize Tryd.prog 12 1 := hasSize_mk (by kernel_rfl)
instance : IsZero Tryd.prog 12 [.int .u64 0] := isZero_mk (b := 8) (by kernel_rfl) rfl
instance : IsElem Tryd.prog 12 [.int .u64 0] 8 := isElem_mk (by kernel_rfl) rfl (by simp)

instance : IsAgg Tryd.prog 13 2 := isAgg_mk (by kernel_rfl)
instance : IsBuild Tryd.prog 13 [.string ⟨#[]⟩, .int .u64 0] [(0, 1), (1, 1)] := ⟨by kernel_rfl, rfl⟩
instance : IsField Tryd.prog 13 0 0 := isField_mk (by kernel_rfl)
instance : IsField Tryd.prog 13 1 1 := isField_mk (by kernel_rfl)
instance : HasSize Tryd.prog 13 2 := hasSize_mk (by kernel_rfl)
instance : IsZero Tryd.prog 13 [.string ⟨#[]⟩, .int .u64 0] := isZero_mk (b := 24) (by kernel_rfl) rfl
instance : IsElem Tryd.prog 13 [.string ⟨#[]⟩, .int .u64 0] 24 := isElem_mk (by kernel_rfl) rfl (by simp)

instance : IsScalar Tryd.prog 21 := isScalar_mk (by kernel_rfl)
instance : IsInt Tryd.prog 21 .i32 := ⟨by kernel_rfl⟩
instance : HasTy Tryd.prog 21 := ⟨by kernel_rfl⟩
instance : HasSize Tryd.prog 21 1 := hasSize_mk (by kernel_rfl)
instance : IsZero Tryd.prog 21 [.int .i32 0] := isZero_mk (b := 4) (by kernel_rfl) rfl
instance : IsElem Tryd.prog 21 [.int .i32 0] 4 := isElem_mk (by kernel_rfl) rfl (by simp)

instance : IsScalar Tryd.prog 22 := isScalar_mk (by kernel_rfl)
instance : HasSize Tryd.prog 22 1 := hasSize_mk (by kernel_rfl)
instance : IsZero Tryd.prog 22 [.nilFunc] := isZero_mk (b := 8) (by kernel_rfl) rfl
instance : IsElem Tryd.prog 22 [.nilFunc] 8 := isElem_mk (by kernel_rfl) rfl (by simp)

instance : IsScalar Tryd.prog 23 := isScalar_mk (by kernel_rfl)
instance : IsSl Tryd.prog 23 38 1 := isSl_mk (by kernel_rfl) (by kernel_rfl)
instance : HasSize Tryd.prog 23 1 := hasSize_mk (by kernel_rfl)
instance : IsZero Tryd.prog 23 [.slice none 0 0] := isZero_mk (b := 24) (by kernel_rfl) rfl
instance : IsElem Tryd.prog 23 [.slice none 0 0] 24 := isElem_mk (by kernel_rfl) rfl (by simp)

instance : IsScalar Tryd.prog 24 := isScalar_mk (by kernel_rfl)
instance : IsSl Tryd.prog 24 38 1 := isSl_mk (by kernel_rfl) (by kernel_rfl)
instance : HasSize Tryd.prog 24 1 := hasSize_mk (by kernel_rfl)
instance : IsZero Tryd.prog 24 [.slice none 0 0] := isZero_mk (b := 24) (by kernel_rfl) rfl
instance : IsElem Tryd.prog 24 [.slice none 0 0] 24 := isElem_mk (by kernel_rfl) rfl (by simp)

instance : IsScalar Tryd.prog 25 := isScalar_mk (by kernel_rfl)
instance : IsInt Tryd.prog 25 .i64 := ⟨by kernel_rfl⟩
instance : HasTy Tryd.prog 25 := ⟨by kernel_rfl⟩
instance : HasSize Tryd.prog 25 1 := hasSize_mk (by kernel_rfl)
instance : IsZero Tryd.prog 25 [.int .i64 0] := isZero_mk (b := 8) (by kernel_rfl) rfl
instance : IsElem Tryd.prog 25 [.int .i64 0] 8 := isElem_mk (by kernel_rfl) rfl (by simp)

instance : IsScalar Tryd.prog 27 := isScalar_mk (by kernel_rfl)
instance : HasSize Tryd.prog 27 1 := hasSize_mk (by kernel_rfl)
instance : IsZero Tryd.prog 27 [.nilFunc] := isZero_mk (b := 8) (by kernel_rfl) rfl
instance : IsElem Tryd.prog 27 [.nilFunc] 8 := isElem_mk (by kernel_rfl) rfl (by simp)

instance : IsAgg Tryd.prog 28 2 := isAgg_mk (by kernel_rfl)
instance : IsBuild Tryd.prog 28 [.bool false, .slice none 0 0] [(0, 1), (1, 1)] := ⟨by kernel_rfl, rfl⟩
instance : IsField Tryd.prog 28 0 0 := isField_mk (by kernel_rfl)
instance : IsField Tryd.prog 28 1 1 := isField_mk (by kernel_rfl)
instance : HasSize Tryd.prog 28 2 := hasSize_mk (by kernel_rfl)
instance : IsZero Tryd.prog 28 [.bool false, .slice none 0 0] := isZero_mk (b := 32) (by kernel_rfl) rfl
instance : IsElem Tryd.prog 28 [.bool false, .slice none 0 0] 32 := isElem_mk (by kernel_rfl) rfl (by simp)

instance : IsAgg Tryd.prog 29 2 := isAgg_mk (by kernel_rfl)
instance : IsBuild Tryd.prog 29 [.bool false, .slice none 0 0] [(0, 1), (1, 1)] := ⟨by kernel_rfl, rfl⟩
instance : IsField Tryd.prog 29 0 0 := isField_mk (by kernel_rfl)
instance : IsField Tryd.prog 29 1 1 := isField_mk (by kernel_rfl)
instance : HasSize Tryd.prog 29 2 := hasSize_mk (by kernel_rfl)
instance : IsZero Tryd.prog 29 [.bool false, .slice none 0 0] := isZero_mk (b := 32) (by kernel_rfl) rfl
instance : IsElem Tryd.prog 29 [.bool false, .slice none 0 0] 32 := isElem_mk (by kernel_rfl) rfl (by simp)

instance : IsScalar Tryd.prog 31 := isScalar_mk (by kernel_rfl)
instance : HasSize Tryd.prog 31 1 := hasSize_mk (by kernel_rfl)
instance : IsZero Tryd.prog 31 [.nilFunc] := isZero_mk (b := 8) (by kernel_rfl) rfl
instance : IsElem Tryd.prog 31 [.nilFunc] 8 := isElem_mk (by kernel_rfl) rfl (by simp)

instance : IsScalar Tryd.prog 32 := isScalar_mk (by kernel_rfl)
instance : IsSl Tryd.prog 32 5 1 := isSl_mk (by kernel_rfl) (by kernel_rfl)
instance : HasSize Tryd.prog 32 1 := hasSize_mk (by kernel_rfl)
instance : IsZero Tryd.prog 32 [.slice none 0 0] := isZero_mk (b := 24) (by kernel_rfl) rfl
instance : IsElem Tryd.prog 32 [.slice none 0 0] 24 := isElem_mk (by kernel_rfl) rfl (by simp)

instance : IsScalar Tryd.prog 33 := isScalar_mk (by kernel_rfl)
instance : HasSize Tryd.prog 33 1 := hasSize_mk (by kernel_rfl)
instance : IsZero Tryd.prog 33 [.nilFunc] := isZero_mk (b := 8) (by kernel_rfl) rfl
instance : IsElem Tryd.prog 33 [.nilFunc] 8 := isElem_mk (by kernel_rfl) rfl (by simp)

instance : IsScalar Tryd.prog 34 := isScalar_mk (by kernel_rfl)
instance : HasSize Tryd.prog 34 1 := hasSize_mk (by kernel_rfl)
instance : IsZero Tryd.prog 34 [.nilFunc] := isZero_mk (b := 8) (by kernel_rfl) rfl
instance : IsElem Tryd.prog 34 [.nilFunc] 8 := isElem_mk (by kernel_rfl) rfl (by simp)

instance : IsScalar Tryd.prog 35 := isScalar_mk (by kernel_rfl)
instance : HasSize Tryd.prog 35 1 := hasSize_mk (by kernel_rfl)
instance : IsZero Tryd.prog 35 [.nilFunc] := isZero_mk (b := 8) (by kernel_rfl) rfl
instance : IsElem Tryd.prog 35 [.nilFunc] 8 := isElem_mk (by kernel_rfl) rfl (by simp)

instance : IsScalar Tryd.prog 36 := isScalar_mk (by kernel_rfl)
instance : HasSize Tryd.prog 36 1 := hasSize_mk (by kernel_rfl)
instance : IsZero Tryd.prog 36 [.nilFunc] := isZero_mk (b := 8) (by kernel_rfl) rfl
instance : IsElem Tryd.prog 36 [.nilFunc] 8 := isElem_mk (by kernel_rfl) rfl (by simp)

instance : IsScalar Tryd.prog 37 := isScalar_mk (by kernel_rfl)
instance : HasSize Tryd.prog 37 1 := hasSize_mk (by kernel_rfl)
instance : IsZero Tryd.prog 37 [.nilFunc] := isZero_mk (b := 8) (by kernel_rfl) rfl
instance : IsElem Tryd.prog 37 [.nilFunc] 8 := isElem_mk (by kernel_rfl) rfl (by simp)

instance : IsScalar Tryd.prog 38 := isScalar_mk (by kernel_rfl)
instance : IsInt Tryd.prog 38 .u32 := ⟨by kernel_rfl⟩
instance : HasTy Tryd.prog 38 := ⟨by kernel_rfl⟩
instance : HasSize Tryd.prog 38 1 := hasSize_mk (by kernel_rfl)
instance : IsZero Tryd.prog 38 [.int .u32 0] := isZero_mk (b := 4) (by kernel_rfl) rfl
instance : IsElem Tryd.prog 38 [.int .u32 0] 4 := isElem_mk (by kernel_rfl) rfl (by simp)

instance : IsScalar Tryd.prog 39 := isScalar_mk (by kernel_rfl)
instance : HasSize Tryd.prog 39 1 := hasSize_mk (by kernel_rfl)
instance : IsZero Tryd.prog 39 [.nilFunc] := isZero_mk (b := 8) (by kernel_rfl) rfl
instance : IsElem Tryd.prog 39 [.nilFunc] 8 := isElem_mk (by kernel_rfl) rfl (by simp)

instance : IsScalar Tryd.prog 40 := isScalar_mk (by kernel_rfl)
instance : HasSize Tryd.prog 40 1 := hasSize_mk (by kernel_rfl)
instance : IsZero Tryd.prog 40 [.nilFunc] := isZero_mk (b := 8) (by kernel_rfl) rfl
instance : IsElem Tryd.prog 40 [.nilFunc] 8 := isElem_mk (by kernel_rfl) rfl (by simp)

instance : IsScalar Tryd.prog 41 := isScalar_mk (by kernel_rfl)
instance : HasSize Tryd.prog 41 1 := hasSize_mk (by kernel_rfl)
instance : IsZero Tryd.prog 41 [.nilFunc] := isZero_mk (b := 8) (by kernel_rfl) rfl
instance : IsElem Tryd.prog 41 [.nilFunc] 8 := isElem_mk (by kernel_rfl) rfl (by simp)

instance : IsScalar Tryd.prog 42 := isScalar_mk (by kernel_rfl)
instance : HasSize Tryd.prog 42 1 := hasSize_mk (by kernel_rfl)
instance : IsZero Tryd.prog 42 [.nilFunc] := isZero_mk (b := 8) (by kernel_rfl) rfl
instance : IsElem Tryd.prog 42 [.nilFunc] 8 := isElem_mk (by kernel_rfl) rfl (by simp)

instance : IsScalar Tryd.prog 43 := isScalar_mk (by kernel_rfl)
instance : HasSize Tryd.prog 43 1 := hasSize_mk (by kernel_rfl)
instance : IsZero Tryd.prog 43 [.nilFunc] := isZero_mk (b := 8) (by kernel_rfl) rfl
instance : IsElem Tryd.prog 43 [.nilFunc] 8 := isElem_mk (by kernel_rfl) rfl (by simp)

instance : IsScalar Tryd.prog 44 := isScalar_mk (by kernel_rfl)
instance : HasSize Tryd.prog 44 1 := hasSize_mk (by kernel_rfl)
instance : IsZero Tryd.prog 44 [.nilFunc] := isZero_mk (b := 8) (by kernel_rfl) rfl
instance : IsElem Tryd.prog 44 [.nilFunc] 8 := isElem_mk (by kernel_rfl) rfl (by simp)

instance : IsScalar Tryd.prog 45 := isScalar_mk (by kernel_rfl)
instance : HasSize Tryd.prog 45 1 := hasSize_mk (by kernel_rfl)
instance : IsZero Tryd.prog 45 [.nilFunc] := isZero_mk (b := 8) (by kernel_rfl) rfl
instance : IsElem Tryd.prog 45 [.nilFunc] 8 := isElem_mk (by kernel_rfl) rfl (by simp)

instance : IsScalar Tryd.prog 46 := isScalar_mk (by kernel_rfl)
instance : HasSize Tryd.prog 46 1 := hasSize_mk (by kernel_rfl)
instance : IsZero Tryd.prog 46 [.nilFunc] := isZero_mk (b := 8) (by kernel_rfl) rfl
instance : IsElem Tryd.prog 46 [.nilFunc] 8 := isElem_mk (by kernel_rfl) rfl (by simp)

instance : IsScalar Tryd.prog 47 := isScalar_mk (by kernel_rfl)
instance : HasSize Tryd.prog 47 1 := hasSize_mk (by kernel_rfl)
instance : IsZero Tryd.prog 47 [.nilFunc] := isZero_mk (b := 8) (by kernel_rfl) rfl
instance : IsElem Tryd.prog 47 [.nilFunc] 8 := isElem_mk (by kernel_rfl) rfl (by simp)

instance : IsScalar Tryd.prog 48 := isScalar_mk (by kernel_rfl)
instance : IsInt Tryd.prog 48 .u64 := ⟨by kernel_rfl⟩
instance : HasTy Tryd.prog 48 := ⟨by kernel_rfl⟩
instance : HasSize Tryd.prog 48 1 := hasSize_mk (by kernel_rfl)
instance : IsZero Tryd.prog 48 [.int .u64 0] := isZero_mk (b := 8) (by kernel_rfl) rfl
instance : IsElem Tryd.prog 48 [.int .u64 0] 8 := isElem_mk (by kernel_rfl) rfl (by simp)

instance : IsScalar Tryd.prog 50 := isScalar_mk (by kernel_rfl)
instance : HasSize Tryd.prog 50 1 := hasSize_mk (by kernel_rfl)
instance : IsZero Tryd.prog 50 [.nilFunc] := isZero_mk (b := 8) (by kernel_rfl) rfl
instance : IsElem Tryd.prog 50 [.nilFunc] 8 := isElem_mk (by kernel_rfl) rfl (by simp)

instance : IsScalar Tryd.prog 51 := isScalar_mk (by kernel_rfl)
instance : HasSize Tryd.prog 51 1 := hasSize_mk (by kernel_rfl)
instance : IsZero Tryd.prog 51 [.nilFunc] := isZero_mk (b := 8) (by kernel_rfl) rfl
instance : IsElem Tryd.prog 51 [.nilFunc] 8 := isElem_mk (by kernel_rfl) rfl (by simp)

instance : IsScalar Tryd.prog 52 := isScalar_mk (by kernel_rfl)
instance : HasSize Tryd.prog 52 1 := hasSize_mk (by kernel_rfl)
instance : IsZero Tryd.prog 52 [.nilFunc] := isZero_mk (b := 8) (by kernel_rfl) rfl
instance : IsElem Tryd.prog 52 [.nilFunc] 8 := isElem_mk (by kernel_rfl) rfl (by simp)

instance : IsScalar Tryd.prog 53 := isScalar_mk (by kernel_rfl)
instance : HasSize Tryd.prog 53 1 := hasSize_mk (by kernel_rfl)
instance : IsZero Tryd.prog 53 [.nilFunc] := isZero_mk (b := 8) (by kernel_rfl) rfl
instance : IsElem Tryd.prog 53 [.nilFunc] 8 := isElem_mk (by kernel_rfl) rfl (by simp)

instance : IsScalar Tryd.prog 54 := isScalar_mk (by kernel_rfl)
instance : HasSize Tryd.prog 54 1 := hasSize_mk (by kernel_rfl)
instance : IsZero Tryd.prog 54 [.nilFunc] := isZero_mk (b := 8) (by kernel_rfl) rfl
instance : IsElem Tryd.prog 54 [.nilFunc] 8 := isElem_mk (by kernel_rfl) rfl (by simp)

instance : IsScalar Tryd.prog 55 := isScalar_mk (by kernel_rfl)
instance : HasSize Tryd.prog 55 1 := hasSize_mk (by kernel_rfl)
instance : IsZero Tryd.prog 55 [.nilFunc] := isZero_mk (b := 8) (by kernel_rfl) rfl
instance : IsElem Tryd.prog 55 [.nilFunc] 8 := isElem_mk (by kernel_rfl) rfl (by simp)

instance : IsScalar Tryd.prog 56 := isScalar_mk (by kernel_rfl)
instance : HasSize Tryd.prog 56 1 := hasSize_mk (by kernel_rfl)
instance : IsZero Tryd.prog 56 [.nilFunc] := isZero_mk (b := 8) (by kernel_rfl) rfl
instance : IsElem Tryd.prog 56 [.nilFunc] 8 := isElem_mk (by kernel_rfl) rfl (by simp)

instance : IsScalar Tryd.prog 57 := isScalar_mk (by kernel_rfl)
instance : HasSize Tryd.prog 57 1 := hasSize_mk (by kernel_rfl)
instance : IsZero Tryd.prog 57 [.nilFunc] := isZero_mk (b := 8) (by kernel_rfl) rfl
instance : IsElem Tryd.prog 57 [.nilFunc] 8 := isElem_mk (by kernel_rfl) rfl (by simp)

instance : IsScalar Tryd.prog 58 := isScalar_mk (by kernel_rfl)
instance : IsInt Tryd.prog 58 .u64 := ⟨by kernel_rfl⟩
instance : HasTy Tryd.prog 58 := ⟨by kernel_rfl⟩
instance : HasSize Tryd.prog 58 1 := hasSize_mk (by kernel_rfl)
instance : IsZero Tryd.prog 58 [.int .u64 0] := isZero_mk (b := 8) (by kernel_rfl) rfl
instance : IsElem Tryd.prog 58 [.int .u64 0] 8 := isElem_mk (by kernel_rfl) rfl (by simp)

instance : IsScalar Tryd.prog 59 := isScalar_mk (by kernel_rfl)
instance : IsSl Tryd.prog 59 24 1 := isSl_mk (by kernel_rfl) (by kernel_rfl)
instance : HasSize Tryd.prog 59 1 := hasSize_mk (by kernel_rfl)
instance : IsZero Tryd.prog 59 [.slice none 0 0] := isZero_mk (b := 24) (by kernel_rfl) rfl
instance : IsElem Tryd.prog 59 [.slice none 0 0] 24 := isElem_mk (by kernel_rfl) rfl (by simp)

instance : IsScalar Tryd.prog 60 := isScalar_mk (by kernel_rfl)
instance : HasSize Tryd.prog 60 1 := hasSize_mk (by kernel_rfl)
instance : IsZero Tryd.prog 60 [.nilFunc] := isZero_mk (b := 8) (by kernel_rfl) rfl
instance : IsElem Tryd.prog 60 [.nilFunc] 8 := isElem_mk (by kernel_rfl) rfl (by simp)

instance : IsScalar Tryd.prog 61 := isScalar_mk (by kernel_rfl)
instance : HasSize Tryd.prog 61 1 := hasSize_mk (by kernel_rfl)
instance : IsZero Tryd.prog 61 [.nilFunc] := isZero_mk (b := 8) (by kernel_rfl) rfl
instance : IsElem Tryd.prog 61 [.nilFunc] 8 := isElem_mk (by kernel_rfl) rfl (by simp)

instance : IsScalar Tryd.prog 62 := isScalar_mk (by kernel_rfl)
instance : HasSize Tryd.prog 62 1 := hasSize_mk (by kernel_rfl)
instance : IsZero Tryd.prog 62 [.nilFunc] := isZero_mk (b := 8) (by kernel_rfl) rfl
instance : IsElem Tryd.prog 62 [.nilFunc] 8 := isElem_mk (by kernel_rfl) rfl (by simp)

instance : IsScalar Tryd.prog 63 := isScalar_mk (by kernel_rfl)
instance : HasSize Tryd.prog 63 1 := hasSize_mk (by kernel_rfl)
instance : IsZero Tryd.prog 63 [.nilFunc] := isZero_mk (b := 8) (by kernel_rfl) rfl
instance : IsElem Tryd.prog 63 [.nilFunc] 8 := isElem_mk (by kernel_rfl) rfl (by simp)

instance : IsScalar Tryd.prog 65 := isScalar_mk (by kernel_rfl)
instance : HasSize Tryd.prog 65 1 := hasSize_mk (by kernel_rfl)
instance : IsZero Tryd.prog 65 [.nilFunc] := isZero_mk (b := 8) (by kernel_rfl) rfl
instance : IsElem Tryd.prog 65 [.nilFunc] 8 := isElem_mk (by kernel_rfl) rfl (by simp)

instance : IsScalar Tryd.prog 67 := isScalar_mk (by kernel_rfl)
instance : HasSize Tryd.prog 67 1 := hasSize_mk (by kernel_rfl)
instance : IsZero Tryd.prog 67 [.nilFunc] := isZero_mk (b := 8) (by kernel_rfl) rfl
instance : IsElem Tryd.prog 67 [.nilFunc] 8 := isElem_mk (by kernel_rfl) rfl (by simp)

instance : IsScalar Tryd.prog 69 := isScalar_mk (by kernel_rfl)
instance : HasSize Tryd.prog 69 1 := hasSize_mk (by kernel_rfl)
instance : IsZero Tryd.prog 69 [.nilFunc] := isZero_mk (b := 8) (by kernel_rfl) rfl
instance : IsElem Tryd.prog 69 [.nilFunc] 8 := isElem_mk (by kernel_rfl) rfl (by simp)

instance : IsScalar Tryd.prog 70 := isScalar_mk (by kernel_rfl)
instance : HasSize Tryd.prog 70 1 := hasSize_mk (by kernel_rfl)
instance : IsZero Tryd.prog 70 [.nilFunc] := isZero_mk (b := 8) (by kernel_rfl) rfl
instance : IsElem Tryd.prog 70 [.nilFunc] 8 := isElem_mk (by kernel_rfl) rfl (by simp)

instance : IsScalar Tryd.prog 71 := isScalar_mk (by kernel_rfl)
instance : HasSize Tryd.prog 71 1 := hasSize_mk (by kernel_rfl)
instance : IsZero Tryd.prog 71 [.pointer none] := isZero_mk (b := 8) (by kernel_rfl) rfl
instance : IsElem Tryd.prog 71 [.pointer none] 8 := isElem_mk (by kernel_rfl) rfl (by simp)

instance : IsAgg Tryd.prog 72 2 := isAgg_mk (by kernel_rfl)
instance : IsBuild Tryd.prog 72 [.pointer none, .slice none 0 0] [(0, 1), (1, 1)] := ⟨by kernel_rfl, rfl⟩
instance : IsField Tryd.prog 72 0 0 := isField_mk (by kernel_rfl)
instance : IsField Tryd.prog 72 1 1 := isField_mk (by kernel_rfl)
instance : HasSize Tryd.prog 72 2 := hasSize_mk (by kernel_rfl)
instance : IsZero Tryd.prog 72 [.pointer none, .slice none 0 0] := isZero_mk (b := 32) (by kernel_rfl) rfl
instance : IsElem Tryd.prog 72 [.pointer none, .slice none 0 0] 32 := isElem_mk (by kernel_rfl) rfl (by simp)

instance : IsAgg Tryd.prog 73 2 := isAgg_mk (by kernel_rfl)
instance : IsBuild Tryd.prog 73 [.pointer none, .slice none 0 0] [(0, 1), (1, 1)] := ⟨by kernel_rfl, rfl⟩
instance : IsField Tryd.prog 73 0 0 := isField_mk (by kernel_rfl)
instance : IsField Tryd.prog 73 1 1 := isField_mk (by kernel_rfl)
instance : HasSize Tryd.prog 73 2 := hasSize_mk (by kernel_rfl)
instance : IsZero Tryd.prog 73 [.pointer none, .slice none 0 0] := isZero_mk (b := 32) (by kernel_rfl) rfl
instance : IsElem Tryd.prog 73 [.pointer none, .slice none 0 0] 32 := isElem_mk (by kernel_rfl) rfl (by simp)

instance : IsScalar Tryd.prog 74 := isScalar_mk (by kernel_rfl)
instance : HasSize Tryd.prog 74 1 := hasSize_mk (by kernel_rfl)
instance : IsZero Tryd.prog 74 [.nilFunc] := isZero_mk (b := 8) (by kernel_rfl) rfl
instance : IsElem Tryd.prog 74 [.nilFunc] 8 := isElem_mk (by kernel_rfl) rfl (by simp)

instance : IsScalar Tryd.prog 76 := isScalar_mk (by kernel_rfl)
instance : HasSize Tryd.prog 76 1 := hasSize_mk (by kernel_rfl)
instance : IsZero Tryd.prog 76 [.nilIface] := isZero_mk (b := 16) (by kernel_rfl) rfl
instance : IsElem Tryd.prog 76 [.nilIface] 16 := isElem_mk (by kernel_rfl) rfl (by simp)

instance : IsScalar Tryd.prog 78 := isScalar_mk (by kernel_rfl)
instance : HasSize Tryd.prog 78 1 := hasSize_mk (by kernel_rfl)
instance : IsZero Tryd.prog 78 [.nilFunc] := isZero_mk (b := 8) (by kernel_rfl) rfl
instance : IsElem Tryd.prog 78 [.nilFunc] 8 := isElem_mk (by kernel_rfl) rfl (by simp)

instance : IsScalar Tryd.prog 79 := isScalar_mk (by kernel_rfl)
instance : HasSize Tryd.prog 79 1 := hasSize_mk (by kernel_rfl)
instance : IsZero Tryd.prog 79 [.nilFunc] := isZero_mk (b := 8) (by kernel_rfl) rfl
instance : IsElem Tryd.prog 79 [.nilFunc] 8 := isElem_mk (by kernel_rfl) rfl (by simp)

instance : IsScalar Tryd.prog 80 := isScalar_mk (by kernel_rfl)
instance : HasSize Tryd.prog 80 1 := hasSize_mk (by kernel_rfl)
instance : IsZero Tryd.prog 80 [.nilFunc] := isZero_mk (b := 8) (by kernel_rfl) rfl
instance : IsElem Tryd.prog 80 [.nilFunc] 8 := isElem_mk (by kernel_rfl) rfl (by simp)

instance : IsScalar Tryd.prog 81 := isScalar_mk (by kernel_rfl)
instance : HasSize Tryd.prog 81 1 := hasSize_mk (by kernel_rfl)
instance : IsZero Tryd.prog 81 [.nilFunc] := isZero_mk (b := 8) (by kernel_rfl) rfl
instance : IsElem Tryd.prog 81 [.nilFunc] 8 := isElem_mk (by kernel_rfl) rfl (by simp)

instance : IsAgg Tryd.prog 82 256 := isAgg_mk (by kernel_rfl)
instance : IsArr Tryd.prog 82 256 1 := ⟨4, by kernel_rfl, by kernel_rfl⟩
instance : HasSize Tryd.prog 82 256 := hasSize_mk (by kernel_rfl)

instance : IsAgg Tryd.prog 83 256 := isAgg_mk (by kernel_rfl)
instance : IsArr Tryd.prog 83 256 1 := ⟨4, by kernel_rfl, by kernel_rfl⟩
instance : HasSize Tryd.prog 83 256 := hasSize_mk (by kernel_rfl)

instance : IsScalar Tryd.prog 85 := isScalar_mk (by kernel_rfl)
instance : HasSize Tryd.prog 85 1 := hasSize_mk (by kernel_rfl)
instance : IsZero Tryd.prog 85 [.nilFunc] := isZero_mk (b := 8) (by kernel_rfl) rfl
instance : IsElem Tryd.prog 85 [.nilFunc] 8 := isElem_mk (by kernel_rfl) rfl (by simp)

instance : IsScalar Tryd.prog 86 := isScalar_mk (by kernel_rfl)
instance : HasSize Tryd.prog 86 1 := hasSize_mk (by kernel_rfl)
instance : IsZero Tryd.prog 86 [.nilFunc] := isZero_mk (b := 8) (by kernel_rfl) rfl
instance : IsElem Tryd.prog 86 [.nilFunc] 8 := isElem_mk (by kernel_rfl) rfl (by simp)

instance : IsScalar Tryd.prog 87 := isScalar_mk (by kernel_rfl)
instance : HasSize Tryd.prog 87 1 := hasSize_mk (by kernel_rfl)
instance : IsZero Tryd.prog 87 [.pointer none] := isZero_mk (b := 8) (by kernel_rfl) rfl
instance : IsElem Tryd.prog 87 [.pointer none] 8 := isElem_mk (by kernel_rfl) rfl (by simp)

instance : IsScalar Tryd.prog 88 := isScalar_mk (by kernel_rfl)
instance : HasSize Tryd.prog 88 1 := hasSize_mk (by kernel_rfl)
instance : IsZero Tryd.prog 88 [.nilFunc] := isZero_mk (b := 8) (by kernel_rfl) rfl
instance : IsElem Tryd.prog 88 [.nilFunc] 8 := isElem_mk (by kernel_rfl) rfl (by simp)

instance : IsScalar Tryd.prog 89 := isScalar_mk (by kernel_rfl)
instance : HasSize Tryd.prog 89 1 := hasSize_mk (by kernel_rfl)
instance : IsZero Tryd.prog 89 [.nilFunc] := isZero_mk (b := 8) (by kernel_rfl) rfl
instance : IsElem Tryd.prog 89 [.nilFunc] 8 := isElem_mk (by kernel_rfl) rfl (by simp)

instance : IsScalar Tryd.prog 90 := isScalar_mk (by kernel_rfl)
instance : HasSize Tryd.prog 90 1 := hasSize_mk (by kernel_rfl)
instance : IsZero Tryd.prog 90 [.nilFunc] := isZero_mk (b := 8) (by kernel_rfl) rfl
instance : IsElem Tryd.prog 90 [.nilFunc] 8 := isElem_mk (by kernel_rfl) rfl (by simp)

instance : IsScalar Tryd.prog 91 := isScalar_mk (by kernel_rfl)
instance : HasSize Tryd.prog 91 1 := hasSize_mk (by kernel_rfl)
instance : IsZero Tryd.prog 91 [.nilFunc] := isZero_mk (b := 8) (by kernel_rfl) rfl
instance : IsElem Tryd.prog 91 [.nilFunc] 8 := isElem_mk (by kernel_rfl) rfl (by simp)

instance : IsScalar Tryd.prog 92 := isScalar_mk (by kernel_rfl)
instance : HasSize Tryd.prog 92 1 := hasSize_mk (by kernel_rfl)
instance : IsZero Tryd.prog 92 [.nilFunc] := isZero_mk (b := 8) (by kernel_rfl) rfl
instance : IsElem Tryd.prog 92 [.nilFunc] 8 := isElem_mk (by kernel_rfl) rfl (by simp)

instance : IsScalar Tryd.prog 94 := isScalar_mk (by kernel_rfl)
instance : HasSize Tryd.prog 94 1 := hasSize_mk (by kernel_rfl)
instance : IsZero Tryd.prog 94 [.nilFunc] := isZero_mk (b := 8) (by kernel_rfl) rfl
instance : IsElem Tryd.prog 94 [.nilFunc] 8 := isElem_mk (by kernel_rfl) rfl (by simp)

instance : IsScalar Tryd.prog 95 := isScalar_mk (by kernel_rfl)
instance : HasSize Tryd.prog 95 1 := hasSize_mk (by kernel_rfl)
instance : IsZero Tryd.prog 95 [.nilFunc] := isZero_mk (b := 8) (by kernel_rfl) rfl
instance : IsElem Tryd.prog 95 [.nilFunc] 8 := isElem_mk (by kernel_rfl) rfl (by simp)

instance : IsScalar Tryd.prog 96 := isScalar_mk (by kernel_rfl)
instance : HasSize Tryd.prog 96 1 := hasSize_mk (by kernel_rfl)
instance : IsZero Tryd.prog 96 [.pointer none] := isZero_mk (b := 8) (by kernel_rfl) rfl
instance : IsElem Tryd.prog 96 [.pointer none] 8 := isElem_mk (by kernel_rfl) rfl (by simp)

instance : IsScalar Tryd.prog 97 := isScalar_mk (by kernel_rfl)
instance : HasSize Tryd.prog 97 1 := hasSize_mk (by kernel_rfl)
instance : IsZero Tryd.prog 97 [.nilFunc] := isZero_mk (b := 8) (by kernel_rfl) rfl
instance : IsElem Tryd.prog 97 [.nilFunc] 8 := isElem_mk (by kernel_rfl) rfl (by simp)

instance : IsAgg Tryd.prog 98 2 := isAgg_mk (by kernel_rfl)
instance : IsBuild Tryd.prog 98 [.slice none 0 0, .slice none 0 0] [(0, 1), (1, 1)] := ⟨by kernel_rfl, rfl⟩
instance : IsField Tryd.prog 98 0 0 := isField_mk (by kernel_rfl)
instance : IsField Tryd.prog 98 1 1 := isField_mk (by kernel_rfl)
instance : HasSize Tryd.prog 98 2 := hasSize_mk (by kernel_rfl)
instance : IsZero Tryd.prog 98 [.slice none 0 0, .slice none 0 0] := isZero_mk (b := 48) (by kernel_rfl) rfl
instance : IsElem Tryd.prog 98 [.slice none 0 0, .slice none 0 0] 48 := isElem_mk (by kernel_rfl) rfl (by simp)

instance : IsAgg Tryd.prog 99 2 := isAgg_mk (by kernel_rfl)
instance : IsBuild Tryd.prog 99 [.slice none 0 0, .slice none 0 0] [(0, 1), (1, 1)] := ⟨by kernel_rfl, rfl⟩
instance : IsField Tryd.prog 99 0 0 := isField_mk (by kernel_rfl)
instance : IsField Tryd.prog 99 1 1 := isField_mk (by kernel_rfl)
instance : HasSize Tryd.prog 99 2 := hasSize_mk (by kernel_rfl)
instance : IsZero Tryd.prog 99 [.slice none 0 0, .slice none 0 0] := isZero_mk (b := 48) (by kernel_rfl) rfl
instance : IsElem Tryd.prog 99 [.slice none 0 0, .slice none 0 0] 48 := isElem_mk (by kernel_rfl) rfl (by simp)

instance : IsScalar Tryd.prog 100 := isScalar_mk (by kernel_rfl)
instance : HasSize Tryd.prog 100 1 := hasSize_mk (by kernel_rfl)
instance : IsZero Tryd.prog 100 [.nilFunc] := isZero_mk (b := 8) (by kernel_rfl) rfl
instance : IsElem Tryd.prog 100 [.nilFunc] 8 := isElem_mk (by kernel_rfl) rfl (by simp)

instance : IsScalar Tryd.prog 101 := isScalar_mk (by kernel_rfl)
instance : HasSize Tryd.prog 101 1 := hasSize_mk (by kernel_rfl)
instance : IsZero Tryd.prog 101 [.nilFunc] := isZero_mk (b := 8) (by kernel_rfl) rfl
instance : IsElem Tryd.prog 101 [.nilFunc] 8 := isElem_mk (by kernel_rfl) rfl (by simp)

instance : IsScalar Tryd.prog 102 := isScalar_mk (by kernel_rfl)
instance : HasSize Tryd.prog 102 1 := hasSize_mk (by kernel_rfl)
instance : IsZero Tryd.prog 102 [.nilFunc] := isZero_mk (b := 8) (by kernel_rfl) rfl
instance : IsElem Tryd.prog 102 [.nilFunc] 8 := isElem_mk (by kernel_rfl) rfl (by simp)

instance : IsScalar Tryd.prog 103 := isScalar_mk (by kernel_rfl)
instance : HasSize Tryd.prog 103 1 := hasSize_mk (by kernel_rfl)
instance : IsZero Tryd.prog 103 [.nilFunc] := isZero_mk (b := 8) (by kernel_rfl) rfl
instance : IsElem Tryd.prog 103 [.nilFunc] 8 := isElem_mk (by kernel_rfl) rfl (by simp)

instance : IsAgg Tryd.prog 104 24 := isAgg_mk (by kernel_rfl)
instance : IsBuild Tryd.prog 104 [.int .u8 0, .int .u8 0, .int .u8 0, .int .u8 0, .int .u8 0, .int .u8 0, .int .u8 0, .int .u8 0, .int .u8 0, .int .u8 0, .int .u8 0, .int .u8 0, .int .u8 0, .int .u8 0, .int .u8 0, .int .u8 0, .int .u8 0, .int .u8 0, .int .u8 0, .int .u8 0, .int .u8 0, .int .u8 0, .int .u8 0, .int .u8 0] [(0, 1), (1, 1), (2, 1), (3, 1), (4, 1), (5, 1), (6, 1), (7, 1), (8, 1), (9, 1), (10, 1), (11, 1), (12, 1), (13, 1), (14, 1), (15, 1), (16, 1), (17, 1), (18, 1), (19, 1), (20, 1), (21, 1), (22, 1), (23, 1)] := ⟨by kernel_rfl, rfl⟩
instance : IsArr Tryd.prog 104 24 1 := ⟨5, by kernel_rfl, by kernel_rfl⟩
instance : HasSize Tryd.prog 104 24 := hasSize_mk (by kernel_rfl)
instance : IsZero Tryd.prog 104 [.int .u8 0, .int .u8 0, .int .u8 0, .int .u8 0, .int .u8 0, .int .u8 0, .int .u8 0, .int .u8 0, .int .u8 0, .int .u8 0, .int .u8 0, .int .u8 0, .int .u8 0, .int .u8 0, .int .u8 0, .int .u8 0, .int .u8 0, .int .u8 0, .int .u8 0, .int .u8 0, .int .u8 0, .int .u8 0, .int .u8 0, .int .u8 0] := isZero_mk (b := 24) (by kernel_rfl) rfl
instance : IsElem Tryd.prog 104 [.int .u8 0, .int .u8 0, .int .u8 0, .int .u8 0, .int .u8 0, .int .u8 0, .int .u8 0, .int .u8 0, .int .u8 0, .int .u8 0, .int .u8 0, .int .u8 0, .int .u8 0, .int .u8 0, .int .u8 0, .int .u8 0, .int .u8 0, .int .u8 0, .int .u8 0, .int .u8 0, .int .u8 0, .int .u8 0, .int .u8 0, .int .u8 0] 24 := isElem_mk (by kernel_rfl) rfl (by simp)

instance : IsScalar Tryd.prog 105 := isScalar_mk (by kernel_rfl)
instance : HasSize Tryd.prog 105 1 := hasSize_mk (by kernel_rfl)
instance : IsZero Tryd.prog 105 [.nilFunc] := isZero_mk (b := 8) (by kernel_rfl) rfl
instance : IsElem Tryd.prog 105 [.nilFunc] 8 := isElem_mk (by kernel_rfl) rfl (by simp)

instance : IsScalar Tryd.prog 106 := isScalar_mk (by kernel_rfl)
instance : HasSize Tryd.prog 106 1 := hasSize_mk (by kernel_rfl)
instance : IsZero Tryd.prog 106 [.nilFunc] := isZero_mk (b := 8) (by kernel_rfl) rfl
instance : IsElem Tryd.prog 106 [.nilFunc] 8 := isElem_mk (by kernel_rfl) rfl (by simp)

instance : IsScalar Tryd.prog 108 := isScalar_mk (by kernel_rfl)
instance : HasSize Tryd.prog 108 1 := hasSize_mk (by kernel_rfl)
instance : IsZero Tryd.prog 108 [.nilFunc] := isZero_mk (b := 8) (by kernel_rfl) rfl
instance : IsElem Tryd.prog 108 [.nilFunc] 8 := isElem_mk (by kernel_rfl) rfl (by simp)

instance : IsScalar Tryd.prog 110 := isScalar_mk (by kernel_rfl)
instance : HasSize Tryd.prog 110 1 := hasSize_mk (by kernel_rfl)
instance : IsZero Tryd.prog 110 [.nilFunc] := isZero_mk (b := 8) (by kernel_rfl) rfl
instance : IsElem Tryd.prog 110 [.nilFunc] 8 := isElem_mk (by kernel_rfl) rfl (by simp)

instance : IsScalar Tryd.prog 112 := isScalar_mk (by kernel_rfl)
instance : HasSize Tryd.prog 112 1 := hasSize_mk (by kernel_rfl)
instance : IsZero Tryd.prog 112 [.nilFunc] := isZero_mk (b := 8) (by kernel_rfl) rfl
instance : IsElem Tryd.prog 112 [.nilFunc] 8 := isElem_mk (by kernel_rfl) rfl (by simp)

instance : IsScalar Tryd.prog 113 := isScalar_mk (by kernel_rfl)
instance : HasSize Tryd.prog 113 1 := hasSize_mk (by kernel_rfl)
instance : IsZero Tryd.prog 113 [.pointer none] := isZero_mk (b := 8) (by kernel_rfl) rfl
instance : IsElem Tryd.prog 113 [.pointer none] 8 := isElem_mk (by kernel_rfl) rfl (by simp)

instance : IsScalar Tryd.prog 114 := isScalar_mk (by kernel_rfl)
instance : HasSize Tryd.prog 114 1 := hasSize_mk (by kernel_rfl)
instance : IsZero Tryd.prog 114 [.nilFunc] := isZero_mk (b := 8) (by kernel_rfl) rfl
instance : IsElem Tryd.prog 114 [.nilFunc] 8 := isElem_mk (by kernel_rfl) rfl (by simp)

instance : IsScalar Tryd.prog 116 := isScalar_mk (by kernel_rfl)
instance : HasSize Tryd.prog 116 1 := hasSize_mk (by kernel_rfl)
instance : IsZero Tryd.prog 116 [.nilFunc] := isZero_mk (b := 8) (by kernel_rfl) rfl
instance : IsElem Tryd.prog 116 [.nilFunc] 8 := isElem_mk (by kernel_rfl) rfl (by simp)

instance : IsScalar Tryd.prog 117 := isScalar_mk (by kernel_rfl)
instance : HasSize Tryd.prog 117 1 := hasSize_mk (by kernel_rfl)
instance : IsZero Tryd.prog 117 [.nilFunc] := isZero_mk (b := 8) (by kernel_rfl) rfl
instance : IsElem Tryd.prog 117 [.nilFunc] 8 := isElem_mk (by kernel_rfl) rfl (by simp)

instance : IsScalar Tryd.prog 118 := isScalar_mk (by kernel_rfl)
instance : HasSize Tryd.prog 118 1 := hasSize_mk (by kernel_rfl)
instance : IsZero Tryd.prog 118 [.nilFunc] := isZero_mk (b := 8) (by kernel_rfl) rfl
instance : IsElem Tryd.prog 118 [.nilFunc] 8 := isElem_mk (by kernel_rfl) rfl (by simp)

instance : IsScalar Tryd.prog 119 := isScalar_mk (by kernel_rfl)
instance : HasSize Tryd.prog 119 1 := hasSize_mk (by kernel_rfl)
instance : IsZero Tryd.prog 119 [.nilFunc] := isZero_mk (b := 8) (by kernel_rfl) rfl
instance : IsElem Tryd.prog 119 [.nilFunc] 8 := isElem_mk (by kernel_rfl) rfl (by simp)

instance : IsScalar Tryd.prog 120 := isScalar_mk (by kernel_rfl)
instance : HasSize Tryd.prog 120 1 := hasSize_mk (by kernel_rfl)
instance : IsZero Tryd.prog 120 [.nilFunc] := isZero_mk (b := 8) (by kernel_rfl) rfl
instance : IsElem Tryd.prog 120 [.nilFunc] 8 := isElem_mk (by kernel_rfl) rfl (by simp)

instance : IsScalar Tryd.prog 121 := isScalar_mk (by kernel_rfl)
instance : HasSize Tryd.prog 121 1 := hasSize_mk (by kernel_rfl)
instance : IsZero Tryd.prog 121 [.nilFunc] := isZero_mk (b := 8) (by kernel_rfl) rfl
instance : IsElem Tryd.prog 121 [.nilFunc] 8 := isElem_mk (by kernel_rfl) rfl (by simp)

instance : IsScalar Tryd.prog 122 := isScalar_mk (by kernel_rfl)
instance : HasSize Tryd.prog 122 1 := hasSize_mk (by kernel_rfl)
instance : IsZero Tryd.prog 122 [.nilFunc] := isZero_mk (b := 8) (by kernel_rfl) rfl
instance : IsElem Tryd.prog 122 [.nilFunc] 8 := isElem_mk (by kernel_rfl) rfl (by simp)

instance : IsScalar Tryd.prog 123 := isScalar_mk (by kernel_rfl)
instance : HasSize Tryd.prog 123 1 := hasSize_mk (by kernel_rfl)
instance : IsZero Tryd.prog 123 [.nilFunc] := isZero_mk (b := 8) (by kernel_rfl) rfl
instance : IsElem Tryd.prog 123 [.nilFunc] 8 := isElem_mk (by kernel_rfl) rfl (by simp)

instance : IsScalar Tryd.prog 124 := isScalar_mk (by kernel_rfl)
instance : HasSize Tryd.prog 124 1 := hasSize_mk (by kernel_rfl)
instance : IsZero Tryd.prog 124 [.nilFunc] := isZero_mk (b := 8) (by kernel_rfl) rfl
instance : IsElem Tryd.prog 124 [.nilFunc] 8 := isElem_mk (by kernel_rfl) rfl (by simp)

instance : IsScalar Tryd.prog 125 := isScalar_mk (by kernel_rfl)
instance : HasSize Tryd.prog 125 1 := hasSize_mk (by kernel_rfl)
instance : IsZero Tryd.prog 125 [.nilFunc] := isZero_mk (b := 8) (by kernel_rfl) rfl
instance : IsElem Tryd.prog 125 [.nilFunc] 8 := isElem_mk (by kernel_rfl) rfl (by simp)

instance : IsAgg Tryd.prog 126 20 := isAgg_mk (by kernel_rfl)
instance : IsBuild Tryd.prog 126 [.int .u64 0, .int .u64 0, .int .u64 0, .int .u64 0, .int .u64 0, .int .u64 0, .int .u64 0, .int .u64 0, .int .u64 0, .int .u64 0, .int .u64 0, .int .u64 0, .int .u64 0, .int .u64 0, .int .u64 0, .int .u64 0, .int .u64 0, .int .u64 0, .int .u64 0, .int .u64 0] [(0, 1), (1, 1), (2, 1), (3, 1), (4, 1), (5, 1), (6, 1), (7, 1), (8, 1), (9, 1), (10, 1), (11, 1), (12, 1), (13, 1), (14, 1), (15, 1), (16, 1), (17, 1), (18, 1), (19, 1)] := ⟨by kernel_rfl, rfl⟩
instance : IsArr Tryd.prog 126 20 1 := ⟨48, by kernel_rfl, by kernel_rfl⟩
instance : HasSize Tryd.prog 126 20 := hasSize_mk (by kernel_rfl)
instance : IsZero Tryd.prog 126 [.int .u64 0, .int .u64 0, .int .u64 0, .int .u64 0, .int .u64 0, .int .u64 0, .int .u64 0, .int .u64 0, .int .u64 0, .int .u64 0, .int .u64 0, .int .u64 0, .int .u64 0, .int .u64 0, .int .u64 0, .int .u64 0, .int .u64 0, .int .u64 0, .int .u64 0, .int .u64 0] := isZero_mk (b := 160) (by kernel_rfl) rfl
instance : IsElem Tryd.prog 126 [.int .u64 0, .int .u64 0, .int .u64 0, .int .u64 0, .int .u64 0, .int .u64 0, .int .u64 0, .int .u64 0, .int .u64 0, .int .u64 0, .int .u64 0, .int .u64 0, .int .u64 0, .int .u64 0, .int .u64 0, .int .u64 0, .int .u64 0, .int .u64 0, .int .u64 0, .int .u64 0] 160 := isElem_mk (by kernel_rfl) rfl (by simp)

instance : IsAgg Tryd.prog 127 65 := isAgg_mk (by kernel_rfl)
instance : IsArr Tryd.prog 127 65 1 := ⟨5, by kernel_rfl, by kernel_rfl⟩
instance : HasSize Tryd.prog 127 65 := hasSize_mk (by kernel_rfl)

instance : IsScalar Tryd.prog 128 := isScalar_mk (by kernel_rfl)
instance : HasSize Tryd.prog 128 1 := hasSize_mk (by kernel_rfl)
instance : IsZero Tryd.prog 128 [.nilFunc] := isZero_mk (b := 8) (by kernel_rfl) rfl
instance : IsElem Tryd.prog 128 [.nilFunc] 8 := isElem_mk (by kernel_rfl) rfl (by simp)

instance : IsScalar Tryd.prog 130 := isScalar_mk (by kernel_rfl)
instance : HasSize Tryd.prog 130 1 := hasSize_mk (by kernel_rfl)
instance : IsZero Tryd.prog 130 [.nilFunc] := isZero_mk (b := 8) (by kernel_rfl) rfl
instance : IsElem Tryd.prog 130 [.nilFunc] 8 := isElem_mk (by kernel_rfl) rfl (by simp)

instance : IsScalar Tryd.prog 131 := isScalar_mk (by kernel_rfl)
instance : HasSize Tryd.prog 131 1 := hasSize_mk (by kernel_rfl)
instance : IsZero Tryd.prog 131 [.nilFunc] := isZero_mk (b := 8) (by kernel_rfl) rfl
instance : IsElem Tryd.prog 131 [.nilFunc] 8 := isElem_mk (by kernel_rfl) rfl (by simp)

instance : IsScalar Tryd.prog 132 := isScalar_mk (by kernel_rfl)
instance : HasSize Tryd.prog 132 1 := hasSize_mk (by kernel_rfl)
instance : IsZero Tryd.prog 132 [.nilFunc] := isZero_mk (b := 8) (by kernel_rfl) rfl
instance : IsElem Tryd.prog 132 [.nilFunc] 8 := isElem_mk (by kernel_rfl) rfl (by simp)

instance : IsScalar Tryd.prog 133 := isScalar_mk (by kernel_rfl)
instance : HasSize Tryd.prog 133 1 := hasSize_mk (by kernel_rfl)
instance : IsZero Tryd.prog 133 [.nilFunc] := isZero_mk (b := 8) (by kernel_rfl) rfl
instance : IsElem Tryd.prog 133 [.nilFunc] 8 := isElem_mk (by kernel_rfl) rfl (by simp)

instance : IsAgg Tryd.prog 134 256 := isAgg_mk (by kernel_rfl)
instance : IsArr Tryd.prog 134 256 1 := ⟨5, by kernel_rfl, by kernel_rfl⟩
instance : HasSize Tryd.prog 134 256 := hasSize_mk (by kernel_rfl)

instance : IsAgg Tryd.prog 135 2 := isAgg_mk (by kernel_rfl)
instance : IsBuild Tryd.prog 135 [.int .u8 0, .int .u8 0] [(0, 1), (1, 1)] := ⟨by kernel_rfl, rfl⟩
instance : IsField Tryd.prog 135 0 0 := isField_mk (by kernel_rfl)
instance : IsField Tryd.prog 135 1 1 := isField_mk (by kernel_rfl)
instance : HasSize Tryd.prog 135 2 := hasSize_mk (by kernel_rfl)
instance : IsZero Tryd.prog 135 [.int .u8 0, .int .u8 0] := isZero_mk (b := 2) (by kernel_rfl) rfl
instance : IsElem Tryd.prog 135 [.int .u8 0, .int .u8 0] 2 := isElem_mk (by kernel_rfl) rfl (by simp)

instance : IsAgg Tryd.prog 136 2 := isAgg_mk (by kernel_rfl)
instance : IsBuild Tryd.prog 136 [.int .u8 0, .int .u8 0] [(0, 1), (1, 1)] := ⟨by kernel_rfl, rfl⟩
instance : IsField Tryd.prog 136 0 0 := isField_mk (by kernel_rfl)
instance : IsField Tryd.prog 136 1 1 := isField_mk (by kernel_rfl)
instance : HasSize Tryd.prog 136 2 := hasSize_mk (by kernel_rfl)
instance : IsZero Tryd.prog 136 [.int .u8 0, .int .u8 0] := isZero_mk (b := 2) (by kernel_rfl) rfl
instance : IsElem Tryd.prog 136 [.int .u8 0, .int .u8 0] 2 := isElem_mk (by kernel_rfl) rfl (by simp)

instance : IsAgg Tryd.prog 137 32 := isAgg_mk (by kernel_rfl)
instance : IsBuild Tryd.prog 137 [.int .u8 0, .int .u8 0, .int .u8 0, .int .u8 0, .int .u8 0, .int .u8 0, .int .u8 0, .int .u8 0, .int .u8 0, .int .u8 0, .int .u8 0, .int .u8 0, .int .u8 0, .int .u8 0, .int .u8 0, .int .u8 0, .int .u8 0, .int .u8 0, .int .u8 0, .int .u8 0, .int .u8 0, .int .u8 0, .int .u8 0, .int .u8 0, .int .u8 0, .int .u8 0, .int .u8 0, .int .u8 0, .int .u8 0, .int .u8 0, .int .u8 0, .int .u8 0] [(0, 2), (2, 2), (4, 2), (6, 2), (8, 2), (10, 2), (12, 2), (14, 2), (16, 2), (18, 2), (20, 2), (22, 2), (24, 2), (26, 2), (28, 2), (30, 2)] := ⟨by kernel_rfl, rfl⟩
instance : IsArr Tryd.prog 137 16 2 := ⟨136, by kernel_rfl, by kernel_rfl⟩
instance : HasSize Tryd.prog 137 32 := hasSize_mk (by kernel_rfl)
instance : IsZero Tryd.prog 137 [.int .u8 0, .int .u8 0, .int .u8 0, .int .u8 0, .int .u8 0, .int .u8 0, .int .u8 0, .int .u8 0, .int .u8 0, .int .u8 0, .int .u8 0, .int .u8 0, .int .u8 0, .int .u8 0, .int .u8 0, .int .u8 0, .int .u8 0, .int .u8 0, .int .u8 0, .int .u8 0, .int .u8 0, .int .u8 0, .int .u8 0, .int .u8 0, .int .u8 0, .int .u8 0, .int .u8 0, .int .u8 0, .int .u8 0, .int .u8 0, .int .u8 0, .int .u8 0] := isZero_mk (b := 32) (by kernel_rfl) rfl
instance : IsElem Tryd.prog 137 [.int .u8 0, .int .u8 0, .int .u8 0, .int .u8 0, .int .u8 0, .int .u8 0, .int .u8 0, .int .u8 0, .int .u8 0, .int .u8 0, .int .u8 0, .int .u8 0, .int .u8 0, .int .u8 0, .int .u8 0, .int .u8 0, .int .u8 0, .int .u8 0, .int .u8 0, .int .u8 0, .int .u8 0, .int .u8 0, .int .u8 0, .int .u8 0, .int .u8 0, .int .u8 0, .int .u8 0, .int .u8 0, .int .u8 0, .int .u8 0, .int .u8 0, .int .u8 0] 32 := isElem_mk (by kernel_rfl) rfl (by simp)

instance : IsScalar Tryd.prog 138 := isScalar_mk (by kernel_rfl)
instance : HasSize Tryd.prog 138 1 := hasSize_mk (by kernel_rfl)
instance : IsZero Tryd.prog 138 [.nilFunc] := isZero_mk (b := 8) (by kernel_rfl) rfl
instance : IsElem Tryd.prog 138 [.nilFunc] 8 := isElem_mk (by kernel_rfl) rfl (by simp)

instance : IsScalar Tryd.prog 139 := isScalar_mk (by kernel_rfl)
instance : HasSize Tryd.prog 139 1 := hasSize_mk (by kernel_rfl)
instance : IsZero Tryd.prog 139 [.nilFunc] := isZero_mk (b := 8) (by kernel_rfl) rfl
instance : IsElem Tryd.prog 139 [.nilFunc] 8 := isElem_mk (by kernel_rfl) rfl (by simp)

instance : IsScalar Tryd.prog 140 := isScalar_mk (by kernel_rfl)
instance : HasSize Tryd.prog 140 1 := hasSize_mk (by kernel_rfl)
instance : IsZero Tryd.prog 140 [.nilFunc] := isZero_mk (b := 8) (by kernel_rfl) rfl
instance : IsElem Tryd.prog 140 [.nilFunc] 8 := isElem_mk (by kernel_rfl) rfl (by simp)

instance : IsAgg Tryd.prog 141 32 := isAgg_mk (by kernel_rfl)
instance : IsBuild Tryd.prog 141 [.int .u8 0, .int .u8 0, .int .u8 0, .int .u8 0, .int .u8 0, .int .u8 0, .int .u8 0, .int .u8 0, .int .u8 0, .int .u8 0, .int .u8 0, .int .u8 0, .int .u8 0, .int .u8 0, .int .u8 0, .int .u8 0, .int .u8 0, .int .u8 0, .int .u8 0, .int .u8 0, .int .u8 0, .int .u8 0, .int .u8 0, .int .u8 0, .int .u8 0, .int .u8 0, .int .u8 0, .int .u8 0, .int .u8 0, .int .u8 0, .int .u8 0, .int .u8 0] [(0, 1), (1, 1), (2, 1), (3, 1), (4, 1), (5, 1), (6, 1), (7, 1), (8, 1), (9, 1), (10, 1), (11, 1), (12, 1), (13, 1), (14, 1), (15, 1), (16, 1), (17, 1), (18, 1), (19, 1), (20, 1), (21, 1), (22, 1), (23, 1), (24, 1), (25, 1), (26, 1), (27, 1), (28, 1), (29, 1), (30, 1), (31, 1)] := ⟨by kernel_rfl, rfl⟩
instance : IsArr Tryd.prog 141 32 1 := ⟨5, by kernel_rfl, by kernel_rfl⟩
instance : HasSize Tryd.prog 141 32 := hasSize_mk (by kernel_rfl)
instance : IsZero Tryd.prog 141 [.int .u8 0, .int .u8 0, .int .u8 0, .int .u8 0, .int .u8 0, .int .u8 0, .int .u8 0, .int .u8 0, .int .u8 0, .int .u8 0, .int .u8 0, .int .u8 0, .int .u8 0, .int .u8 0, .int .u8 0, .int .u8 0, .int .u8 0, .int .u8 0, .int .u8 0, .int .u8 0, .int .u8 0, .int .u8 0, .int .u8 0, .int .u8 0, .int .u8 0, .int .u8 0, .int .u8 0, .int .u8 0, .int .u8 0, .int .u8 0, .int .u8 0, .int .u8 0] := isZero_mk (b := 32) (by kernel_rfl) rfl
instance : IsElem Tryd.prog 141 [.int .u8 0, .int .u8 0, .int .u8 0, .int .u8 0, .int .u8 0, .int .u8 0, .int .u8 0, .int .u8 0, .int .u8 0, .int .u8 0, .int .u8 0, .int .u8 0, .int .u8 0, .int .u8 0, .int .u8 0, .int .u8 0, .int .u8 0, .int .u8 0, .int .u8 0, .int .u8 0, .int .u8 0, .int .u8 0, .int .u8 0, .int .u8 0, .int .u8 0, .int .u8 0, .int .u8 0, .int .u8 0, .int .u8 0, .int .u8 0, .int .u8 0, .int .u8 0] 32 := isElem_mk (by kernel_rfl) rfl (by simp)

instance : IsAgg Tryd.prog 142 64 := isAgg_mk (by kernel_rfl)
instance : IsBuild Tryd.prog 142 [.int .u8 0, .int .u8 0, .int .u8 0, .int .u8 0, .int .u8 0, .int .u8 0, .int .u8 0, .int .u8 0, .int .u8 0, .int .u8 0, .int .u8 0, .int .u8 0, .int .u8 0, .int .u8 0, .int .u8 0, .int .u8 0, .int .u8 0, .int .u8 0, .int .u8 0, .int .u8 0, .int .u8 0, .int .u8 0, .int .u8 0, .int .u8 0, .int .u8 0, .int .u8 0, .int .u8 0, .int .u8 0, .int .u8 0, .int .u8 0, .int .u8 0, .int .u8 0, .int .u8 0, .int .u8 0, .int .u8 0, .int .u8 0, .int .u8 0, .int .u8 0, .int .u8 0, .int .u8 0, .int .u8 0, .int .u8 0, .int .u8 0, .int .u8 0, .int .u8 0, .int .u8 0, .int .u8 0, .int .u8 0, .int .u8 0, .int .u8 0, .int .u8 0, .int .u8 0, .int .u8 0, .int .u8 0, .int .u8 0, .int .u8 0, .int .u8 0, .int .u8 0, .int .u8 0, .int .u8 0, .int .u8 0, .int .u8 0, .int .u8 0, .int .u8 0] [(0, 1), (1, 1), (2, 1), (3, 1), (4, 1), (5, 1), (6, 1), (7, 1), (8, 1), (9, 1), (10, 1), (11, 1), (12, 1), (13, 1), (14, 1), (15, 1), (16, 1), (17, 1), (18, 1), (19, 1), (20, 1), (21, 1), (22, 1), (23, 1), (24, 1), (25, 1), (26, 1), (27, 1), (28, 1), (29, 1), (30, 1), (31, 1), (32, 1), (33, 1), (34, 1), (35, 1), (36, 1), (37, 1), (38, 1), (39, 1), (40, 1), (41, 1), (42, 1), (43, 1), (44, 1), (45, 1), (46, 1), (47, 1), (48, 1), (49, 1), (50, 1), (51, 1), (52, 1), (53, 1), (54, 1), (55, 1), (56, 1), (57, 1), (58, 1), (59, 1), (60, 1), (61, 1), (62, 1), (63, 1)] := ⟨by kernel_rfl, rfl⟩
instance : IsArr Tryd.prog 142 64 1 := ⟨5, by kernel_rfl, by kernel_rfl⟩
instance : HasSize Tryd.prog 142 64 := hasSize_mk (by kernel_rfl)
instance : IsZero Tryd.prog 142 [.int .u8 0, .int .u8 0, .int .u8 0, .int .u8 0, .int .u8 0, .int .u8 0, .int .u8 0, .int .u8 0, .int .u8 0, .int .u8 0, .int .u8 0, .int .u8 0, .int .u8 0, .int .u8 0, .int .u8 0, .int .u8 0, .int .u8 0, .int .u8 0, .int .u8 0, .int .u8 0, .int .u8 0, .int .u8 0, .int .u8 0, .int .u8 0, .int .u8 0, .int .u8 0, .int .u8 0, .int .u8 0, .int .u8 0, .int .u8 0, .int .u8 0, .int .u8 0, .int .u8 0, .int .u8 0, .int .u8 0, .int .u8 0, .int .u8 0, .int .u8 0, .int .u8 0, .int .u8 0, .int .u8 0, .int .u8 0, .int .u8 0, .int .u8 0, .int .u8 0, .int .u8 0, .int .u8 0, .int .u8 0, .int .u8 0, .int .u8 0, .int .u8 0, .int .u8 0, .int .u8 0, .int .u8 0, .int .u8 0, .int .u8 0, .int .u8 0, .int .u8 0, .int .u8 0, .int .u8 0, .int .u8 0, .int .u8 0, .int .u8 0, .int .u8 0] := isZero_mk (b := 64) (by kernel_rfl) rfl
instance : IsElem Tryd.prog 142 [.int .u8 0, .int .u8 0, .int .u8 0, .int .u8 0, .int .u8 0, .int .u8 0, .int .u8 0, .int .u8 0, .int .u8 0, .int .u8 0, .int .u8 0, .int .u8 0, .int .u8 0, .int .u8 0, .int .u8 0, .int .u8 0, .int .u8 0, .int .u8 0, .int .u8 0, .int .u8 0, .int .u8 0, .int .u8 0, .int .u8 0, .int .u8 0, .int .u8 0, .int .u8 0, .int .u8 0, .int .u8 0, .int .u8 0, .int .u8 0, .int .u8 0, .int .u8 0, .int .u8 0, .int .u8 0, .int .u8 0, .int .u8 0, .int .u8 0, .int .u8 0, .int .u8 0, .int .u8 0, .int .u8 0, .int .u8 0, .int .u8 0, .int .u8 0, .int .u8 0, .int .u8 0, .int .u8 0, .int .u8 0, .int .u8 0, .int .u8 0, .int .u8 0, .int .u8 0, .int .u8 0, .int .u8 0, .int .u8 0, .int .u8 0, .int .u8 0, .int .u8 0, .int .u8 0, .int .u8 0, .int .u8 0, .int .u8 0, .int .u8 0, .int .u8 0] 64 := isElem_mk (by kernel_rfl) rfl (by simp)

instance : IsScalar Tryd.prog 150 := isScalar_mk (by kernel_rfl)
instance : HasSize Tryd.prog 150 1 := hasSize_mk (by kernel_rfl)
instance : IsZero Tryd.prog 150 [.nilFunc] := isZero_mk (b := 8) (by kernel_rfl) rfl
instance : IsElem Tryd.prog 150 [.nilFunc] 8 := isElem_mk (by kernel_rfl) rfl (by simp)

end Go.Proofs
