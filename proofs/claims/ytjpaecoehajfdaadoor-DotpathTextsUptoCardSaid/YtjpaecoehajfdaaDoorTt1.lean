/- What is proved: contracts of functions of this translation, walked; their plain meaning. No condition beyond those that each theorem names. -/
import Derived.Test.YtjpaecoehajfdaaDoorMa4
import Derived.Test.YtjpaecoehajfdaaDoorChecked
import Derived.KernelRfl
set_option linter.all false
namespace Go.Ab
open Go Go.Proofs

theorem ty2 : ty Tryd.prog 2 = { size := 1, bytes := 8, z := .val (.int .i64 0), okz := true, ik := some .i64, ok := true } := by kernel_rfl
theorem ty3 : ty Tryd.prog 3 = { size := 1, bytes := 8, z := .val (.int .i64 0), okz := true, ik := some .i64, ok := true } := by kernel_rfl
theorem ty4 : ty Tryd.prog 4 = { size := 1, bytes := 1, z := .val (.bool false), okz := true, bl := true, ok := true } := by kernel_rfl
theorem ty5 : ty Tryd.prog 5 = { size := 1, bytes := 1, z := .val (.int .u8 0), okz := true, ik := some .u8, ok := true } := by kernel_rfl
theorem ty9 : ty Tryd.prog 9 = { size := 1, bytes := 16, z := .str [], okz := true, str := true, ok := true } := by kernel_rfl
theorem ty22 : ty Tryd.prog 22 = { size := 1, bytes := 24, z := .val (.slice none 0 0), okz := true, el := some 9, ok := true } := by kernel_rfl
theorem ty23 : ty Tryd.prog 23 = { size := 1, bytes := 24, z := .val (.slice none 0 0), okz := true, el := some 25, ok := true } := by kernel_rfl
theorem ty25 : ty Tryd.prog 25 = { ag := true, size := 5, bytes := 80, z := .agg [.val (.int .i64 0), .val (.int .i64 0), .str [], .val (.slice none 0 0), .val (.slice none 0 0)], okz := true, fo := [(0,1),(1,1),(2,1),(3,1),(4,1)], ok := true } := by kernel_rfl
theorem ty40 : ty Tryd.prog 40 = { size := 1, bytes := 8, z := .val (.int .i64 0), okz := true, ik := some .i64, ok := true } := by kernel_rfl
theorem ty95 : ty Tryd.prog 95 = { size := 1, bytes := 24, z := .val (.slice none 0 0), okz := true, el := some 5, ok := true } := by kernel_rfl
theorem ty87 : ty Tryd.prog 87 = { size := 1, bytes := 16, z := .val .nilIface, okz := true, ifc := true, ok := true } := by kernel_rfl
attribute [go_sem] ty2 ty3 ty4 ty5 ty9 ty22 ty23 ty25 ty40 ty95 ty87
end Go.Ab

