/-
  What the library and the two listed variables give the walks of this seat.
-/
import Derived.Test.YtpnljnmpocobjaaDoorS2
import Derived.Test.YtpnljnmpocobjaaDoorA6
import Derived.KernelRfl
import Derived.Test.YtpnljnmpocobjaaDoorB1
namespace Go.Proofs
open Go.Ax
theorem tv2 : tvOf Tryd.prog 2 = some ⟨(.int .i64), 1, 8, (.int .i64 0)⟩ := by kernel_rfl
theorem tv3 : tvOf Tryd.prog 3 = some ⟨(.int .i64), 1, 8, (.int .i64 0)⟩ := by kernel_rfl
theorem tv4 : tvOf Tryd.prog 4 = some ⟨.bool, 1, 1, (.bool false)⟩ := by kernel_rfl
theorem tv5 : tvOf Tryd.prog 5 = some ⟨(.int .u8), 1, 1, (.int .u8 0)⟩ := by kernel_rfl
theorem tv9 : tvOf Tryd.prog 9 = some ⟨.other, 1, 16, (.string ⟨#[]⟩)⟩ := by kernel_rfl
theorem tv22 : tvOf Tryd.prog 22 = some ⟨(.int .i64), 1, 8, (.int .i64 0)⟩ := by kernel_rfl
theorem tv23 : tvOf Tryd.prog 23 = some ⟨(.slice 113), 1, 24, (.slice none 0 0)⟩ := by kernel_rfl
theorem tv24 : tvOf Tryd.prog 24 = some ⟨(.slice 113), 1, 24, (.slice none 0 0)⟩ := by kernel_rfl
theorem tv26 : tvOf Tryd.prog 26 = some ⟨(.struct [(0, 4), (1, 24)]), 2, 32, (.agg #[(.bool false), (.slice none 0 0)])⟩ := by kernel_rfl
theorem tv28 : tvOf Tryd.prog 28 = some ⟨(.struct [(0, 26), (2, 24)]), 3, 56, (.agg #[(.bool false), (.slice none 0 0), (.slice none 0 0)])⟩ := by kernel_rfl
theorem tv31 : tvOf Tryd.prog 31 = some ⟨(.int .i64), 1, 8, (.int .i64 0)⟩ := by kernel_rfl
theorem tv35 : tvOf Tryd.prog 35 = some ⟨(.slice 28), 1, 24, (.slice none 0 0)⟩ := by kernel_rfl
theorem tv42 : tvOf Tryd.prog 42 = some ⟨(.struct [(0, 3), (1, 3)]), 2, 16, (.agg #[(.int .i64 0), (.int .i64 0)])⟩ := by kernel_rfl
theorem tv43 : tvOf Tryd.prog 43 = some ⟨(.int .i64), 1, 8, (.int .i64 0)⟩ := by kernel_rfl
theorem tv45 : tvOf Tryd.prog 45 = some ⟨(.struct [(0, 43), (1, 4), (2, 3), (3, 24)]), 4, 48, (.agg #[(.int .i64 0), (.bool false), (.int .i64 0), (.slice none 0 0)])⟩ := by kernel_rfl
theorem tv51 : tvOf Tryd.prog 51 = some ⟨(.struct [(0, 3), (1, 4), (2, 3), (3, 24)]), 4, 48, (.agg #[(.int .i64 0), (.bool false), (.int .i64 0), (.slice none 0 0)])⟩ := by kernel_rfl
theorem tv55 : tvOf Tryd.prog 55 = some ⟨(.struct [(0, 3), (1, 3)]), 2, 16, (.agg #[(.int .i64 0), (.int .i64 0)])⟩ := by kernel_rfl
theorem tv60 : tvOf Tryd.prog 60 = some ⟨(.int .i64), 1, 8, (.int .i64 0)⟩ := by kernel_rfl
theorem tv71 : tvOf Tryd.prog 71 = some ⟨(.struct [(0, 3), (1, 3), (2, 22)]), 3, 24, (.agg #[(.int .i64 0), (.int .i64 0), (.int .i64 0)])⟩ := by kernel_rfl
theorem tv72 : tvOf Tryd.prog 72 = some ⟨(.slice 77), 1, 24, (.slice none 0 0)⟩ := by kernel_rfl
theorem tv75 : tvOf Tryd.prog 75 = some ⟨(.int .i64), 1, 8, (.int .i64 0)⟩ := by kernel_rfl
theorem tv77 : tvOf Tryd.prog 77 = some ⟨(.struct [(0, 75), (1, 4), (2, 24), (3, 3)]), 4, 48, (.agg #[(.int .i64 0), (.bool false), (.slice none 0 0), (.int .i64 0)])⟩ := by kernel_rfl
theorem tv80 : tvOf Tryd.prog 80 = some ⟨(.struct [(0, 3), (1, 4), (2, 24), (3, 3)]), 4, 48, (.agg #[(.int .i64 0), (.bool false), (.slice none 0 0), (.int .i64 0)])⟩ := by kernel_rfl
theorem tv87 : tvOf Tryd.prog 87 = some ⟨(.struct [(0, 3), (1, 3), (2, 3)]), 3, 24, (.agg #[(.int .i64 0), (.int .i64 0), (.int .i64 0)])⟩ := by kernel_rfl
theorem tv113 : tvOf Tryd.prog 113 = some ⟨(.int .u64), 1, 8, (.int .u64 0)⟩ := by kernel_rfl
theorem tv122 : tvOf Tryd.prog 122 = some ⟨(.struct [(0, 24), (1, 4), (2, 4)]), 3, 32, (.agg #[(.slice none 0 0), (.bool false), (.bool false)])⟩ := by kernel_rfl
theorem tv149 : tvOf Tryd.prog 149 = some ⟨(.slice 80), 1, 24, (.slice none 0 0)⟩ := by kernel_rfl
theorem tv176 : tvOf Tryd.prog 176 = some ⟨(.slice 51), 1, 24, (.slice none 0 0)⟩ := by kernel_rfl
theorem tv193 : tvOf Tryd.prog 193 = some ⟨(.struct [(0, 4), (1, 24), (2, 3)]), 3, 40, (.agg #[(.bool false), (.slice none 0 0), (.int .i64 0)])⟩ := by kernel_rfl
theorem tv198 : tvOf Tryd.prog 198 = some ⟨(.int .i64), 1, 8, (.int .i64 0)⟩ := by kernel_rfl
theorem tv213 : tvOf Tryd.prog 213 = some ⟨(.int .u64), 1, 8, (.int .u64 0)⟩ := by kernel_rfl
theorem tv221 : tvOf Tryd.prog 221 = some ⟨.other, 1, 8, .nilFunc⟩ := by kernel_rfl
theorem tv222 : tvOf Tryd.prog 222 = some ⟨(.array 5 221), 5, 40, (.agg #[.nilFunc, .nilFunc, .nilFunc, .nilFunc, .nilFunc])⟩ := by kernel_rfl
theorem tv225 : tvOf Tryd.prog 225 = some ⟨(.array 64 5), 64, 64, (.agg #[(.int .u8 0), (.int .u8 0), (.int .u8 0), (.int .u8 0), (.int .u8 0), (.int .u8 0), (.int .u8 0), (.int .u8 0), (.int .u8 0), (.int .u8 0), (.int .u8 0), (.int .u8 0), (.int .u8 0), (.int .u8 0), (.int .u8 0), (.int .u8 0), (.int .u8 0), (.int .u8 0), (.int .u8 0), (.int .u8 0), (.int .u8 0), (.int .u8 0), (.int .u8 0), (.int .u8 0), (.int .u8 0), (.int .u8 0), (.int .u8 0), (.int .u8 0), (.int .u8 0), (.int .u8 0), (.int .u8 0), (.int .u8 0), (.int .u8 0), (.int .u8 0), (.int .u8 0), (.int .u8 0), (.int .u8 0), (.int .u8 0), (.int .u8 0), (.int .u8 0), (.int .u8 0), (.int .u8 0), (.int .u8 0), (.int .u8 0), (.int .u8 0), (.int .u8 0), (.int .u8 0), (.int .u8 0), (.int .u8 0), (.int .u8 0), (.int .u8 0), (.int .u8 0), (.int .u8 0), (.int .u8 0), (.int .u8 0), (.int .u8 0), (.int .u8 0), (.int .u8 0), (.int .u8 0), (.int .u8 0), (.int .u8 0), (.int .u8 0), (.int .u8 0), (.int .u8 0)])⟩ := by kernel_rfl
theorem tv227 : tvOf Tryd.prog 227 = some ⟨.other, 1, 16, .nilIface⟩ := by kernel_rfl
/-- The types of this seat. -/
theorem tvs : tvOf Tryd.prog 2 = some ⟨(.int .i64), 1, 8, (.int .i64 0)⟩ ∧
    tvOf Tryd.prog 3 = some ⟨(.int .i64), 1, 8, (.int .i64 0)⟩ ∧
    tvOf Tryd.prog 4 = some ⟨.bool, 1, 1, (.bool false)⟩ ∧
    tvOf Tryd.prog 5 = some ⟨(.int .u8), 1, 1, (.int .u8 0)⟩ ∧
    tvOf Tryd.prog 9 = some ⟨.other, 1, 16, (.string ⟨#[]⟩)⟩ ∧
    tvOf Tryd.prog 22 = some ⟨(.int .i64), 1, 8, (.int .i64 0)⟩ ∧
    tvOf Tryd.prog 23 = some ⟨(.slice 113), 1, 24, (.slice none 0 0)⟩ ∧
    tvOf Tryd.prog 24 = some ⟨(.slice 113), 1, 24, (.slice none 0 0)⟩ ∧
    tvOf Tryd.prog 26 = some ⟨(.struct [(0, 4), (1, 24)]), 2, 32, (.agg #[(.bool false), (.slice none 0 0)])⟩ ∧
    tvOf Tryd.prog 28 = some ⟨(.struct [(0, 26), (2, 24)]), 3, 56, (.agg #[(.bool false), (.slice none 0 0), (.slice none 0 0)])⟩ ∧
    tvOf Tryd.prog 31 = some ⟨(.int .i64), 1, 8, (.int .i64 0)⟩ ∧
    tvOf Tryd.prog 35 = some ⟨(.slice 28), 1, 24, (.slice none 0 0)⟩ ∧
    tvOf Tryd.prog 42 = some ⟨(.struct [(0, 3), (1, 3)]), 2, 16, (.agg #[(.int .i64 0), (.int .i64 0)])⟩ ∧
    tvOf Tryd.prog 43 = some ⟨(.int .i64), 1, 8, (.int .i64 0)⟩ ∧
    tvOf Tryd.prog 45 = some ⟨(.struct [(0, 43), (1, 4), (2, 3), (3, 24)]), 4, 48, (.agg #[(.int .i64 0), (.bool false), (.int .i64 0), (.slice none 0 0)])⟩ ∧
    tvOf Tryd.prog 51 = some ⟨(.struct [(0, 3), (1, 4), (2, 3), (3, 24)]), 4, 48, (.agg #[(.int .i64 0), (.bool false), (.int .i64 0), (.slice none 0 0)])⟩ ∧
    tvOf Tryd.prog 55 = some ⟨(.struct [(0, 3), (1, 3)]), 2, 16, (.agg #[(.int .i64 0), (.int .i64 0)])⟩ ∧
    tvOf Tryd.prog 60 = some ⟨(.int .i64), 1, 8, (.int .i64 0)⟩ ∧
    tvOf Tryd.prog 71 = some ⟨(.struct [(0, 3), (1, 3), (2, 22)]), 3, 24, (.agg #[(.int .i64 0), (.int .i64 0), (.int .i64 0)])⟩ ∧
    tvOf Tryd.prog 72 = some ⟨(.slice 77), 1, 24, (.slice none 0 0)⟩ ∧
    tvOf Tryd.prog 75 = some ⟨(.int .i64), 1, 8, (.int .i64 0)⟩ ∧
    tvOf Tryd.prog 77 = some ⟨(.struct [(0, 75), (1, 4), (2, 24), (3, 3)]), 4, 48, (.agg #[(.int .i64 0), (.bool false), (.slice none 0 0), (.int .i64 0)])⟩ ∧
    tvOf Tryd.prog 80 = some ⟨(.struct [(0, 3), (1, 4), (2, 24), (3, 3)]), 4, 48, (.agg #[(.int .i64 0), (.bool false), (.slice none 0 0), (.int .i64 0)])⟩ ∧
    tvOf Tryd.prog 87 = some ⟨(.struct [(0, 3), (1, 3), (2, 3)]), 3, 24, (.agg #[(.int .i64 0), (.int .i64 0), (.int .i64 0)])⟩ ∧
    tvOf Tryd.prog 113 = some ⟨(.int .u64), 1, 8, (.int .u64 0)⟩ ∧
    tvOf Tryd.prog 122 = some ⟨(.struct [(0, 24), (1, 4), (2, 4)]), 3, 32, (.agg #[(.slice none 0 0), (.bool false), (.bool false)])⟩ ∧
    tvOf Tryd.prog 149 = some ⟨(.slice 80), 1, 24, (.slice none 0 0)⟩ ∧
    tvOf Tryd.prog 176 = some ⟨(.slice 51), 1, 24, (.slice none 0 0)⟩ ∧
    tvOf Tryd.prog 193 = some ⟨(.struct [(0, 4), (1, 24), (2, 3)]), 3, 40, (.agg #[(.bool false), (.slice none 0 0), (.int .i64 0)])⟩ ∧
    tvOf Tryd.prog 198 = some ⟨(.int .i64), 1, 8, (.int .i64 0)⟩ ∧
    tvOf Tryd.prog 213 = some ⟨(.int .u64), 1, 8, (.int .u64 0)⟩ ∧
    tvOf Tryd.prog 221 = some ⟨.other, 1, 8, .nilFunc⟩ ∧
    tvOf Tryd.prog 222 = some ⟨(.array 5 221), 5, 40, (.agg #[.nilFunc, .nilFunc, .nilFunc, .nilFunc, .nilFunc])⟩ ∧
    tvOf Tryd.prog 225 = some ⟨(.array 64 5), 64, 64, (.agg #[(.int .u8 0), (.int .u8 0), (.int .u8 0), (.int .u8 0), (.int .u8 0), (.int .u8 0), (.int .u8 0), (.int .u8 0), (.int .u8 0), (.int .u8 0), (.int .u8 0), (.int .u8 0), (.int .u8 0), (.int .u8 0), (.int .u8 0), (.int .u8 0), (.int .u8 0), (.int .u8 0), (.int .u8 0), (.int .u8 0), (.int .u8 0), (.int .u8 0), (.int .u8 0), (.int .u8 0), (.int .u8 0), (.int .u8 0), (.int .u8 0), (.int .u8 0), (.int .u8 0), (.int .u8 0), (.int .u8 0), (.int .u8 0), (.int .u8 0), (.int .u8 0), (.int .u8 0), (.int .u8 0), (.int .u8 0), (.int .u8 0), (.int .u8 0), (.int .u8 0), (.int .u8 0), (.int .u8 0), (.int .u8 0), (.int .u8 0), (.int .u8 0), (.int .u8 0), (.int .u8 0), (.int .u8 0), (.int .u8 0), (.int .u8 0), (.int .u8 0), (.int .u8 0), (.int .u8 0), (.int .u8 0), (.int .u8 0), (.int .u8 0), (.int .u8 0), (.int .u8 0), (.int .u8 0), (.int .u8 0), (.int .u8 0), (.int .u8 0), (.int .u8 0), (.int .u8 0)])⟩ ∧
    tvOf Tryd.prog 227 = some ⟨.other, 1, 16, .nilIface⟩ :=
  ⟨tv2, tv3, tv4, tv5, tv9, tv22, tv23, tv24, tv26, tv28, tv31, tv35, tv42, tv43, tv45, tv51, tv55, tv60, tv71, tv72, tv75, tv77, tv80, tv87, tv113, tv122, tv149, tv176, tv193, tv198, tv213, tv221, tv222, tv225, tv227⟩
end Go.Proofs
