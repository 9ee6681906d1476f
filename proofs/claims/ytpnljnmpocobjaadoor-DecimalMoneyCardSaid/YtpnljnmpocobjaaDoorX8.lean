/-
  What the library and the listed variables give the walks of this seat.
-/
import Derived.Test.YtpnljnmpocobjaaDoorX5
import Derived.KernelRfl
import Derived.Shelf.Strconv.Itoa0
import Derived.Shelf.Bits.Mul64
import Derived.Shelf.Spec.TrailingZeros
import Derived.Laws.Externs
import Derived.Test.YtpnljnmpocobjaaDoorProg
import Derived.Test.YtpnljnmpocobjaaDoorX6
import Derived.Test.YtpnljnmpocobjaaDoorX7
namespace Go.Proofs
open Go.Shelf Go.Ax Go.RowKit
def Tryd.lays129_ren : Go.Shelf.Ren := ⟨fun | 129 => 148 | n => n, fun | 53 => 113 | 3 => 3 | 4 => 4 | 46 => 213 | 5 => 5 | 9 => 9 | n => n, fun | n => n⟩
theorem Tryd.lays129 : Go.Proofs.Lays.n129 Tryd.prog Tryd.lays129_ren where
  mixed := by kernel_rfl
  f129 := Tryd.func148.trans (congrArg some (by kernel_rfl))
  t3 := Tryd.underlying3
  a3 := Tryd.isAgg3
  z3 := Tryd.sizeOf3
  v3 := Tryd.zeroValue3
  t4 := Tryd.underlying4
  a4 := Tryd.isAgg4
  z4 := Tryd.sizeOf4
  v4 := Tryd.zeroValue4
  t5 := Tryd.underlying5
  a5 := Tryd.isAgg5
  z5 := Tryd.sizeOf5
  v5 := Tryd.zeroValue5
  t9 := Tryd.underlying9
  a9 := Tryd.isAgg9
  z9 := Tryd.sizeOf9
  v9 := Tryd.zeroValue9
  t46 := Tryd.underlying213
  a46 := Tryd.isAgg213
  z46 := Tryd.sizeOf213
  v46 := Tryd.zeroValue213
  t53 := Tryd.underlying113
  a53 := Tryd.isAgg113
  z53 := Tryd.sizeOf113
  v53 := Tryd.zeroValue113
def Tryd.lays264_ren : Go.Shelf.Ren := ⟨fun | 264 => 168 | n => n, fun | 53 => 113 | 46 => 213 | n => n, fun | n => n⟩
theorem Tryd.lays264 : Go.Proofs.Lays.n264 Tryd.prog Tryd.lays264_ren where
  mixed := by kernel_rfl
  f264 := Tryd.func168.trans (congrArg some (by kernel_rfl))
  t46 := Tryd.underlying213
  a46 := Tryd.isAgg213
  z46 := Tryd.sizeOf213
  v46 := Tryd.zeroValue213
  t53 := Tryd.underlying113
  a53 := Tryd.isAgg113
  z53 := Tryd.sizeOf113
  v53 := Tryd.zeroValue113
def Tryd.lays29_ren : Go.Shelf.Ren := ⟨fun | 29 => 186 | n => n, fun | 22 => 113 | 3 => 3 | 4 => 4 | 25 => 213 | 54 => 225 | 0 => 0 | 5 => 5 | n => n, fun | 1 => 1 | n => n⟩
theorem Tryd.lays29 : Go.Proofs.Lays7.n29 Tryd.prog Tryd.lays29_ren where
  mixed := by kernel_rfl
  f29 := Tryd.func186.trans (congrArg some (by kernel_rfl))
  t0 := Tryd.underlying0
  a0 := Tryd.isAgg0
  z0 := Tryd.sizeOf0
  v0 := Tryd.zeroValue0
  i0 := by kernel_rfl
  t3 := Tryd.underlying3
  a3 := Tryd.isAgg3
  z3 := Tryd.sizeOf3
  v3 := Tryd.zeroValue3
  i3 := by kernel_rfl
  t4 := Tryd.underlying4
  a4 := Tryd.isAgg4
  z4 := Tryd.sizeOf4
  v4 := Tryd.zeroValue4
  i4 := by kernel_rfl
  t5 := Tryd.underlying5
  a5 := Tryd.isAgg5
  z5 := Tryd.sizeOf5
  v5 := Tryd.zeroValue5
  i5 := by kernel_rfl
  t22 := Tryd.underlying113
  a22 := Tryd.isAgg113
  z22 := Tryd.sizeOf113
  v22 := Tryd.zeroValue113
  i22 := by kernel_rfl
  t25 := Tryd.underlying213
  a25 := Tryd.isAgg213
  z25 := Tryd.sizeOf213
  v25 := Tryd.zeroValue213
  i25 := by kernel_rfl
  t54 := Tryd.underlying225
  a54 := Tryd.isAgg225
  z54 := Tryd.sizeOf225
  g1 := by kernel_rfl
def fv (f : Nat) : AV := .lit (.func (.func f) #[] #[])
/-- The variables that the laws' functions read: what stands in them. -/
def GEs : Nat → Option (List AV) := fun g => if g = 0 then some [fv 216, fv 217, fv 218, fv 219, fv 220] else if g = 1 then some (Lib.deBruijn64tab.map fun (n : Nat) => AV.int .u8 (n : Int)) else none
theorem mixed : Tryd.prog.follows .mixedOrders = true := by kernel_rfl
theorem ret_Len64 (x : Nat) (hx : x < 18446744073709551616) : Ret Tryd.prog GEs 148 [u x] (i64 (Lib.bitLen x)) :=
  Ret_int1 ⟨Tryd.f148, by kernel_rfl, rfl, rfl⟩ fun w ok hG => Any.bits_Len64 Tryd.lays129 (x : Int) w (by omega) (by omega)
theorem ret_Mul64 (x y : Nat) (hx : x < 18446744073709551616) (hy : y < 18446744073709551616) : Ret Tryd.prog GEs 168 [u x, u y] (.tup [u (x * y / 18446744073709551616), u (x * y % 18446744073709551616)]) :=
  Ret_word2 ⟨Tryd.f168, by kernel_rfl, rfl, rfl⟩ fun w => Any.bits_Mul64 Tryd.lays264 x y hx hy w
theorem retx_Add64 (x y c : Nat) (hc : c ≤ 1) : RetX Tryd.prog 151 [u x, u y, u c] (.tup [u ((x + y + c) % 18446744073709551616), u ((x + y + c) / 18446744073709551616)]) :=
  RetX_word3 fun w => by
    rw [run_callFunc_extern (P := Tryd.prog) (f := 151) (fn := Tryd.f151) (by kernel_rfl) (by kernel_rfl) (by kernel_rfl) (by kernel_rfl) (e := (Extern.MathBitsCarry.rows.head!).2) (by kernel_rfl)]
    have : c = 0 ∨ c = 1 := by omega
    rcases this with rfl | rfl <;> rfl
theorem retx_Sub64 (x y b : Nat) (hb : b ≤ 1) : RetX Tryd.prog 150 [u x, u y, u b] (.tup [u ((x + 18446744073709551616 - y - b) % 18446744073709551616), u (if x < y + b then 1 else 0)]) :=
  RetX_word3 fun w => by
    rw [run_callFunc_extern (P := Tryd.prog) (f := 150) (fn := Tryd.f150) (by kernel_rfl) (by kernel_rfl) (by kernel_rfl) (by kernel_rfl) (e := (Extern.MathBitsCarry.rows.tail.head!).2) (by kernel_rfl)]
    have : b = 0 ∨ b = 1 := by omega
    rcases this with rfl | rfl <;> rfl
theorem tab_of (w : World) (ok : Nat → Prop) (hG : GRep GEs w ok) : TabAt 1 Lib.deBruijn64tab w := by
  obtain ⟨h1, h2⟩ := hG 1 _ rfl (by decide)
  intro j hj
  obtain ⟨v, hv, hr⟩ := h2.get (i := j) (x := .int .u8 (Lib.deBruijn64tab.getD j 0 : Nat)) (by simp [List.getElem?_map, List.getD_eq_getElem?_getD, List.getElem?_eq_getElem hj])
  rw [show v = _ from hr] at hv
  simpa using hv
theorem ret_TrailingZeros64 (x : Nat) (hx : x < 18446744073709551616) : Ret Tryd.prog GEs 186 [u x] (i64 (Lib.ctz 64 x)) :=
  Ret_int1 ⟨Tryd.f186, by kernel_rfl, rfl, rfl⟩ fun w ok hG => Any7.bits_TrailingZeros64 Tryd.lays29 x hx w fun _ => tab_of w ok hG
end Go.Proofs
set_option linter.unusedVariables false
namespace Go.Proofs
open Go.Ax Go.RowKit
def ext1 (f : FuncId) (x : Nat) : Option AV :=
  if x < 18446744073709551616 then
    if f = 148 then some (i64 (Lib.bitLen x)) else if f = 186 then some (i64 (Lib.ctz 64 x)) else none
  else none
def ext2 (f : FuncId) (x y : Nat) : Option AV :=
  if f = 168 ∧ x < 18446744073709551616 ∧ y < 18446744073709551616 then some (.tup [u (x * y / 18446744073709551616), u (x * y % 18446744073709551616)]) else none
def ext3 (f : FuncId) (x y c : Nat) : Option AV :=
  if c ≤ 1 then
    if f = 151 then some (.tup [u ((x + y + c) % 18446744073709551616), u ((x + y + c) / 18446744073709551616)])
    else if f = 150 then some (.tup [u ((x + 18446744073709551616 - y - c) % 18446744073709551616), u (if x < y + c then 1 else 0)]) else none
  else none
/-- The contracts that a run may use. -/
def exts (f : FuncId) (xs : List AV) : Option AV := match xs with
  | [.int .u64 (.ofNat x)] => ext1 f x
  | [.int .u64 (.ofNat x), .int .u64 (.ofNat y)] => ext2 f x y
  | [.int .u64 (.ofNat x), .int .u64 (.ofNat y), .int .u64 (.ofNat c)] => ext3 f x y c
  | _ => none
theorem exts_sound (f : FuncId) (xs : List AV) (r : AV) (h : exts f xs = some r) : Ret Tryd.prog GEs f xs r ∨ RetX Tryd.prog f xs r := by
  unfold exts at h
  split at h
  · rename_i x
    unfold ext1 at h
    split at h
    · rename_i hx
      split at h
      · rename_i hf; subst hf; cases h; exact .inl (ret_Len64 x hx)
      · split at h
        · rename_i hf; subst hf; cases h; exact .inl (ret_TrailingZeros64 x hx)
        · cases h
    · cases h
  · unfold ext2 at h
    split at h
    · rename_i hx; obtain ⟨rfl, hx, hy⟩ := hx; cases h; exact .inl (ret_Mul64 _ _ hx hy)
    · cases h
  · unfold ext3 at h
    split at h
    · rename_i hc
      split at h
      · rename_i hf; subst hf; cases h; exact .inr (retx_Add64 _ _ _ hc)
      · split at h
        · rename_i hf; subst hf; cases h; exact .inr (retx_Sub64 _ _ _ hc)
        · cases h
    · cases h
  · cases h
theorem ran {n : Nat} {f : FuncId} {xs : List AV} {r : AV} (h : xrun Tryd.prog GEs exts n f xs = some r) : Ret Tryd.prog GEs f xs r := xrun_sound mixed exts_sound h
end Go.Proofs
namespace Go.Proofs
open Go.Ax
theorem tv2 : tvOf Tryd.prog 2 = some ⟨(.int .i64), 1, 8, (.int .i64 0)⟩ := by kernel_rfl
theorem tv3 : tvOf Tryd.prog 3 = some ⟨(.int .i64), 1, 8, (.int .i64 0)⟩ := by kernel_rfl
theorem tv4 : tvOf Tryd.prog 4 = some ⟨.bool, 1, 1, (.bool false)⟩ := by kernel_rfl
theorem tv5 : tvOf Tryd.prog 5 = some ⟨(.int .u8), 1, 1, (.int .u8 0)⟩ := by kernel_rfl
theorem tv9 : tvOf Tryd.prog 9 = some ⟨.other, 1, 16, (.string ⟨#[]⟩)⟩ := by kernel_rfl
theorem tv22 : tvOf Tryd.prog 22 = some ⟨(.int .i64), 1, 8, (.int .i64 0)⟩ := by kernel_rfl
theorem tv23 : tvOf Tryd.prog 23 = some ⟨(.slice 113), 1, 24, (.slice none 0 0)⟩ := by kernel_rfl
theorem tv24 : tvOf Tryd.prog 24 = some ⟨(.slice 113), 1, 24, (.slice none 0 0)⟩ := by kernel_rfl
theorem tv26 : tvOf Tryd.prog 26 = some ⟨(.struct [(0, 4), (1, 24)]), 2, 32, (.agg #[(.bool false), (.slice none 0 0)])⟩ := by kernel_rfl
theorem tv28 : tvOf Tryd.prog 28 = some ⟨(.struct [(0, 26), (2, 24)]), 3, 56, (.agg #[(.bool false), (.slice none 0 0), (.slice none 0 0)])⟩ := by kernel_rfl
theorem tv31 : tvOf Tryd.prog 31 = some ⟨(.int .i64), 1, 8, (.int .i64 0)⟩ := by kernel_rfl
theorem tv35 : tvOf Tryd.prog 35 = some ⟨(.slice 28), 1, 24, (.slice none 0 0)⟩ := by kernel_rfl
theorem tv42 : tvOf Tryd.prog 42 = some ⟨(.struct [(0, 3), (1, 3)]), 2, 16, (.agg #[(.int .i64 0), (.int .i64 0)])⟩ := by kernel_rfl
theorem tv43 : tvOf Tryd.prog 43 = some ⟨(.int .i64), 1, 8, (.int .i64 0)⟩ := by kernel_rfl
theorem tv45 : tvOf Tryd.prog 45 = some ⟨(.struct [(0, 43), (1, 4), (2, 3), (3, 24)]), 4, 48, (.agg #[(.int .i64 0), (.bool false), (.int .i64 0), (.slice none 0 0)])⟩ := by kernel_rfl
theorem tv51 : tvOf Tryd.prog 51 = some ⟨(.struct [(0, 3), (1, 4), (2, 3), (3, 24)]), 4, 48, (.agg #[(.int .i64 0), (.bool false), (.int .i64 0), (.slice none 0 0)])⟩ := by kernel_rfl
theorem tv55 : tvOf Tryd.prog 55 = some ⟨(.struct [(0, 3), (1, 3)]), 2, 16, (.agg #[(.int .i64 0), (.int .i64 0)])⟩ := by kernel_rfl
theorem tv60 : tvOf Tryd.prog 60 = some ⟨(.int .i64), 1, 8, (.int .i64 0)⟩ := by kernel_rfl
theorem tv71 : tvOf Tryd.prog 71 = some ⟨(.struct [(0, 3), (1, 3), (2, 22)]), 3, 24, (.agg #[(.int .i64 0), (.int .i64 0), (.int .i64 0)])⟩ := by kernel_rfl
theorem tv72 : tvOf Tryd.prog 72 = some ⟨(.slice 77), 1, 24, (.slice none 0 0)⟩ := by kernel_rfl
theorem tv75 : tvOf Tryd.prog 75 = some ⟨(.int .i64), 1, 8, (.int .i64 0)⟩ := by kernel_rfl
theorem tv77 : tvOf Tryd.prog 77 = some ⟨(.struct [(0, 75), (1, 4), (2, 24), (3, 3)]), 4, 48, (.agg #[(.int .i64 0), (.bool false), (.slice none 0 0), (.int .i64 0)])⟩ := by kernel_rfl
theorem tv80 : tvOf Tryd.prog 80 = some ⟨(.struct [(0, 3), (1, 4), (2, 24), (3, 3)]), 4, 48, (.agg #[(.int .i64 0), (.bool false), (.slice none 0 0), (.int .i64 0)])⟩ := by kernel_rfl
theorem tv87 : tvOf Tryd.prog 87 = some ⟨(.struct [(0, 3), (1, 3), (2, 3)]), 3, 24, (.agg #[(.int .i64 0), (.int .i64 0), (.int .i64 0)])⟩ := by kernel_rfl
theorem tv113 : tvOf Tryd.prog 113 = some ⟨(.int .u64), 1, 8, (.int .u64 0)⟩ := by kernel_rfl
theorem tv122 : tvOf Tryd.prog 122 = some ⟨(.struct [(0, 24), (1, 4), (2, 4)]), 3, 32, (.agg #[(.slice none 0 0), (.bool false), (.bool false)])⟩ := by kernel_rfl
theorem tv149 : tvOf Tryd.prog 149 = some ⟨(.slice 80), 1, 24, (.slice none 0 0)⟩ := by kernel_rfl
theorem tv176 : tvOf Tryd.prog 176 = some ⟨(.slice 51), 1, 24, (.slice none 0 0)⟩ := by kernel_rfl
theorem tv193 : tvOf Tryd.prog 193 = some ⟨(.struct [(0, 4), (1, 24), (2, 3)]), 3, 40, (.agg #[(.bool false), (.slice none 0 0), (.int .i64 0)])⟩ := by kernel_rfl
theorem tv198 : tvOf Tryd.prog 198 = some ⟨(.int .i64), 1, 8, (.int .i64 0)⟩ := by kernel_rfl
theorem tv213 : tvOf Tryd.prog 213 = some ⟨(.int .u64), 1, 8, (.int .u64 0)⟩ := by kernel_rfl
theorem tv221 : tvOf Tryd.prog 221 = some ⟨.other, 1, 8, .nilFunc⟩ := by kernel_rfl
theorem tv222 : tvOf Tryd.prog 222 = some ⟨(.array 5 221), 5, 40, (.agg #[.nilFunc, .nilFunc, .nilFunc, .nilFunc, .nilFunc])⟩ := by kernel_rfl
theorem tv225 : tvOf Tryd.prog 225 = some ⟨(.array 64 5), 64, 64, (.agg #[(.int .u8 0), (.int .u8 0), (.int .u8 0), (.int .u8 0), (.int .u8 0), (.int .u8 0), (.int .u8 0), (.int .u8 0), (.int .u8 0), (.int .u8 0), (.int .u8 0), (.int .u8 0), (.int .u8 0), (.int .u8 0), (.int .u8 0), (.int .u8 0), (.int .u8 0), (.int .u8 0), (.int .u8 0), (.int .u8 0), (.int .u8 0), (.int .u8 0), (.int .u8 0), (.int .u8 0), (.int .u8 0), (.int .u8 0), (.int .u8 0), (.int .u8 0), (.int .u8 0), (.int .u8 0), (.int .u8 0), (.int .u8 0), (.int .u8 0), (.int .u8 0), (.int .u8 0), (.int .u8 0), (.int .u8 0), (.int .u8 0), (.int .u8 0), (.int .u8 0), (.int .u8 0), (.int .u8 0), (.int .u8 0), (.int .u8 0), (.int .u8 0), (.int .u8 0), (.int .u8 0), (.int .u8 0), (.int .u8 0), (.int .u8 0), (.int .u8 0), (.int .u8 0), (.int .u8 0), (.int .u8 0), (.int .u8 0), (.int .u8 0), (.int .u8 0), (.int .u8 0), (.int .u8 0), (.int .u8 0), (.int .u8 0), (.int .u8 0), (.int .u8 0), (.int .u8 0)])⟩ := by kernel_rfl
theorem tv227 : tvOf Tryd.prog 227 = some ⟨.other, 1, 16, .nilIface⟩ := by kernel_rfl
/-- The types of this seat. -/
theorem tvs : tvOf Tryd.prog 2 = some ⟨(.int .i64), 1, 8, (.int .i64 0)⟩ ∧
    tvOf Tryd.prog 3 = some ⟨(.int .i64), 1, 8, (.int .i64 0)⟩ ∧
    tvOf Tryd.prog 4 = some ⟨.bool, 1, 1, (.bool false)⟩ ∧
    tvOf Tryd.prog 5 = some ⟨(.int .u8), 1, 1, (.int .u8 0)⟩ ∧
    tvOf Tryd.prog 9 = some ⟨.other, 1, 16, (.string ⟨#[]⟩)⟩ ∧
    tvOf Tryd.prog 22 = some ⟨(.int .i64), 1, 8, (.int .i64 0)⟩ ∧
    tvOf Tryd.prog 23 = some ⟨(.slice 113), 1, 24, (.slice none 0 0)⟩ ∧
    tvOf Tryd.prog 24 = some ⟨(.slice 113), 1, 24, (.slice none 0 0)⟩ ∧
    tvOf Tryd.prog 26 = some ⟨(.struct [(0, 4), (1, 24)]), 2, 32, (.agg #[(.bool false), (.slice none 0 0)])⟩ ∧
    tvOf Tryd.prog 28 = some ⟨(.struct [(0, 26), (2, 24)]), 3, 56, (.agg #[(.bool false), (.slice none 0 0), (.slice none 0 0)])⟩ ∧
    tvOf Tryd.prog 31 = some ⟨(.int .i64), 1, 8, (.int .i64 0)⟩ ∧
    tvOf Tryd.prog 35 = some ⟨(.slice 28), 1, 24, (.slice none 0 0)⟩ ∧
    tvOf Tryd.prog 42 = some ⟨(.struct [(0, 3), (1, 3)]), 2, 16, (.agg #[(.int .i64 0), (.int .i64 0)])⟩ ∧
    tvOf Tryd.prog 43 = some ⟨(.int .i64), 1, 8, (.int .i64 0)⟩ ∧
    tvOf Tryd.prog 45 = some ⟨(.struct [(0, 43), (1, 4), (2, 3), (3, 24)]), 4, 48, (.agg #[(.int .i64 0), (.bool false), (.int .i64 0), (.slice none 0 0)])⟩ ∧
    tvOf Tryd.prog 51 = some ⟨(.struct [(0, 3), (1, 4), (2, 3), (3, 24)]), 4, 48, (.agg #[(.int .i64 0), (.bool false), (.int .i64 0), (.slice none 0 0)])⟩ ∧
    tvOf Tryd.prog 55 = some ⟨(.struct [(0, 3), (1, 3)]), 2, 16, (.agg #[(.int .i64 0), (.int .i64 0)])⟩ ∧
    tvOf Tryd.prog 60 = some ⟨(.int .i64), 1, 8, (.int .i64 0)⟩ ∧
    tvOf Tryd.prog 71 = some ⟨(.struct [(0, 3), (1, 3), (2, 22)]), 3, 24, (.agg #[(.int .i64 0), (.int .i64 0), (.int .i64 0)])⟩ ∧
    tvOf Tryd.prog 72 = some ⟨(.slice 77), 1, 24, (.slice none 0 0)⟩ ∧
    tvOf Tryd.prog 75 = some ⟨(.int .i64), 1, 8, (.int .i64 0)⟩ ∧
    tvOf Tryd.prog 77 = some ⟨(.struct [(0, 75), (1, 4), (2, 24), (3, 3)]), 4, 48, (.agg #[(.int .i64 0), (.bool false), (.slice none 0 0), (.int .i64 0)])⟩ ∧
    tvOf Tryd.prog 80 = some ⟨(.struct [(0, 3), (1, 4), (2, 24), (3, 3)]), 4, 48, (.agg #[(.int .i64 0), (.bool false), (.slice none 0 0), (.int .i64 0)])⟩ ∧
    tvOf Tryd.prog 87 = some ⟨(.struct [(0, 3), (1, 3), (2, 3)]), 3, 24, (.agg #[(.int .i64 0), (.int .i64 0), (.int .i64 0)])⟩ ∧
    tvOf Tryd.prog 113 = some ⟨(.int .u64), 1, 8, (.int .u64 0)⟩ ∧
    tvOf Tryd.prog 122 = some ⟨(.struct [(0, 24), (1, 4), (2, 4)]), 3, 32, (.agg #[(.slice none 0 0), (.bool false), (.bool false)])⟩ ∧
    tvOf Tryd.prog 149 = some ⟨(.slice 80), 1, 24, (.slice none 0 0)⟩ ∧
    tvOf Tryd.prog 176 = some ⟨(.slice 51), 1, 24, (.slice none 0 0)⟩ ∧
    tvOf Tryd.prog 193 = some ⟨(.struct [(0, 4), (1, 24), (2, 3)]), 3, 40, (.agg #[(.bool false), (.slice none 0 0), (.int .i64 0)])⟩ ∧
    tvOf Tryd.prog 198 = some ⟨(.int .i64), 1, 8, (.int .i64 0)⟩ ∧
    tvOf Tryd.prog 213 = some ⟨(.int .u64), 1, 8, (.int .u64 0)⟩ ∧
    tvOf Tryd.prog 221 = some ⟨.other, 1, 8, .nilFunc⟩ ∧
    tvOf Tryd.prog 222 = some ⟨(.array 5 221), 5, 40, (.agg #[.nilFunc, .nilFunc, .nilFunc, .nilFunc, .nilFunc])⟩ ∧
    tvOf Tryd.prog 225 = some ⟨(.array 64 5), 64, 64, (.agg #[(.int .u8 0), (.int .u8 0), (.int .u8 0), (.int .u8 0), (.int .u8 0), (.int .u8 0), (.int .u8 0), (.int .u8 0), (.int .u8 0), (.int .u8 0), (.int .u8 0), (.int .u8 0), (.int .u8 0), (.int .u8 0), (.int .u8 0), (.int .u8 0), (.int .u8 0), (.int .u8 0), (.int .u8 0), (.int .u8 0), (.int .u8 0), (.int .u8 0), (.int .u8 0), (.int .u8 0), (.int .u8 0), (.int .u8 0), (.int .u8 0), (.int .u8 0), (.int .u8 0), (.int .u8 0), (.int .u8 0), (.int .u8 0), (.int .u8 0), (.int .u8 0), (.int .u8 0), (.int .u8 0), (.int .u8 0), (.int .u8 0), (.int .u8 0), (.int .u8 0), (.int .u8 0), (.int .u8 0), (.int .u8 0), (.int .u8 0), (.int .u8 0), (.int .u8 0), (.int .u8 0), (.int .u8 0), (.int .u8 0), (.int .u8 0), (.int .u8 0), (.int .u8 0), (.int .u8 0), (.int .u8 0), (.int .u8 0), (.int .u8 0), (.int .u8 0), (.int .u8 0), (.int .u8 0), (.int .u8 0), (.int .u8 0), (.int .u8 0), (.int .u8 0), (.int .u8 0)])⟩ ∧
    tvOf Tryd.prog 227 = some ⟨.other, 1, 16, .nilIface⟩ :=
  ⟨tv2, tv3, tv4, tv5, tv9, tv22, tv23, tv24, tv26, tv28, tv31, tv35, tv42, tv43, tv45, tv51, tv55, tv60, tv71, tv72, tv75, tv77, tv80, tv87, tv113, tv122, tv149, tv176, tv193, tv198, tv213, tv221, tv222, tv225, tv227⟩
end Go.Proofs
namespace Go.Ax
theorem bs : type_of% @andC ∧ type_of% @decT ∧ type_of% @decF ∧ type_of% @beqT ∧ type_of% @beqF ∧ type_of% @bneT ∧ type_of% @bneF ∧ type_of% @iteT ∧ type_of% @iteF ∧ type_of% @litU ∧ type_of% @us_get0 ∧ type_of% @us_length ∧ type_of% @us_take ∧ type_of% @us_drop ∧ type_of% @us_append ∧ type_of% @us_set ∧ type_of% @us_cell1 ∧ type_of% @us_zeros ∧ type_of% @us_rep1 ∧ type_of% @us_rep2 ∧ type_of% @us_rep3 ∧ type_of% @ix_us ∧ type_of% @ix_ownU ∧ type_of% @make_us ∧ type_of% @make_us0 ∧ type_of% @nat_nat ∧ type_of% @as_nat ∧ type_of% @slice3_us ∧ type_of% @slice_lo ∧ type_of% @slice_ownLH ∧ type_of% @slice_ownH ∧ type_of% @slice_lstH ∧ type_of% @slice_lstLH ∧ type_of% @beq1 ∧ type_of% @wrapI ∧ type_of% @wrapU_mod ∧ type_of% @modS ∧ type_of% @icast_add ∧ type_of% @icast_mul ∧ type_of% @tdiv64 ∧ type_of% @tmod64 ∧ type_of% @minU ∧ type_of% @ipow2 ∧ type_of% @fdivC ∧ type_of% @i64sub ∧ type_of% @tdivC ∧ type_of% @tmodC ∧ type_of% @lit32 ∧ type_of% @lit32r ∧ type_of% @toNat32 ∧ type_of% @pow32 ∧ type_of% @and32U ∧ type_of% @isubn ∧ type_of% @wrapU_sub ∧ type_of% @orU ∧ type_of% @andU ∧ type_of% @and1U ∧ type_of% @List.length_set.{0} ∧ type_of% @isub ∧ type_of% @isub2 ∧ type_of% @iadd ∧ type_of% @Int.natCast_zero ∧ type_of% @tnat ∧ type_of% @List.length_replicate.{0} ∧ type_of% @true_and ∧ type_of% @and_true ∧ type_of% @List.size_toArray.{0} ∧ type_of% @List.length_cons.{0} ∧ type_of% @List.length_nil.{0} ∧ type_of% @tdivL ∧ type_of% @tmodL ∧ type_of% @iaddL ∧ type_of% @imulL ∧ type_of% @imulR ∧ type_of% @drop03 ∧ type_of% @drop04 ∧ type_of% @take3 ∧ type_of% @take4 ∧ type_of% @lsubL ∧ type_of% @iminL ∧ type_of% @imin2 ∧ type_of% @imax2 ∧ type_of% @imaxZ ∧ type_of% @imaxN ∧ type_of% @Nat.mul_one ∧ type_of% @Nat.zero_add ∧ type_of% @Nat.add_zero ∧ type_of% @Nat.sub_zero ∧ type_of% @Bool.not_true ∧ type_of% @Bool.not_false ∧ type_of% @Bool.and_true ∧ type_of% @Bool.true_and ∧ type_of% @Bool.and_false ∧ type_of% @Bool.false_and ∧ type_of% @Bool.false_eq_true :=
  ⟨@andC, @decT, @decF, @beqT, @beqF, @bneT, @bneF, @iteT, @iteF, @litU, @us_get0, @us_length, @us_take, @us_drop, @us_append, @us_set, @us_cell1, @us_zeros, @us_rep1, @us_rep2, @us_rep3, @ix_us, @ix_ownU, @make_us, @make_us0, @nat_nat, @as_nat, @slice3_us, @slice_lo, @slice_ownLH, @slice_ownH, @slice_lstH, @slice_lstLH, @beq1, @wrapI, @wrapU_mod, @modS, @icast_add, @icast_mul, @tdiv64, @tmod64, @minU, @ipow2, @fdivC, @i64sub, @tdivC, @tmodC, @lit32, @lit32r, @toNat32, @pow32, @and32U, @isubn, @wrapU_sub, @orU, @andU, @and1U, @List.length_set.{0}, @isub, @isub2, @iadd, @Int.natCast_zero, @tnat, @List.length_replicate.{0}, @true_and, @and_true, @List.size_toArray.{0}, @List.length_cons.{0}, @List.length_nil.{0}, @tdivL, @tmodL, @iaddL, @imulL, @imulR, @drop03, @drop04, @take3, @take4, @lsubL, @iminL, @imin2, @imax2, @imaxZ, @imaxN, @Nat.mul_one, @Nat.zero_add, @Nat.add_zero, @Nat.sub_zero, @Bool.not_true, @Bool.not_false, @Bool.and_true, @Bool.true_and, @Bool.and_false, @Bool.false_and, @Bool.false_eq_true⟩
theorem bm : type_of% @mk_eq ∧ type_of% @fold0 ∧ type_of% @foldS ∧ type_of% @rep0A ∧ type_of% @repSA ∧ type_of% @r_S0 ∧ type_of% @r_SS ∧ type_of% @r_D0 ∧ type_of% @r_DS ∧ type_of% @leS_eq ∧ type_of% @leT_any ∧ type_of% @leT_same ∧ type_of% @leT_nil ∧ type_of% @List.length_cons.{0} ∧ type_of% @List.length_nil.{0} ∧ type_of% @and_self ∧ type_of% @sA_eq ∧ type_of% @r_ap0 ∧ type_of% @r_ap1 ∧ type_of% @r_ln0 ∧ type_of% @r_ln1 ∧ type_of% @us_length ∧ type_of% @us_nil ∧ type_of% @us_cons ∧ type_of% @us_snoc1 ∧ type_of% @us_snoc2 ∧ type_of% @List.length_append.{0} ∧ type_of% @List.nil_append.{0} ∧ type_of% @gA_0 ∧ type_of% @gA_S ∧ type_of% @gR_0 ∧ type_of% @gR_S ∧ type_of% @iadd ∧ type_of% @iaddL ∧ type_of% @Int.natCast_zero ∧ type_of% @Int.cast_ofNat_Int :=
  ⟨@mk_eq, @fold0, @foldS, @rep0A, @repSA, @r_S0, @r_SS, @r_D0, @r_DS, @leS_eq, @leT_any, @leT_same, @leT_nil, @List.length_cons.{0}, @List.length_nil.{0}, @and_self, @sA_eq, @r_ap0, @r_ap1, @r_ln0, @r_ln1, @us_length, @us_nil, @us_cons, @us_snoc1, @us_snoc2, @List.length_append.{0}, @List.nil_append.{0}, @gA_0, @gA_S, @gR_0, @gR_S, @iadd, @iaddL, @Int.natCast_zero, @Int.cast_ofNat_Int⟩
theorem bf : type_of% @aress_cons ∧ type_of% @aress_nil ∧ type_of% @ares_tmp ∧ type_of% @ares_cell ∧ type_of% @aresC_some ∧ type_of% @aresO_some ∧ type_of% @finX_some ∧ type_of% @finY_some ∧ type_of% @one_1 ∧ type_of% @one_0 ∧ type_of% @one_2 ∧ type_of% @fzs_nil ∧ type_of% @fzs_cons ∧ type_of% @fzC_some ∧ type_of% @fz_int ∧ type_of% @fz_bool ∧ type_of% @fz_lit ∧ type_of% @fz_emp ∧ type_of% @fz_agg ∧ type_of% @fz_tup ∧ type_of% @fzA_some ∧ type_of% @fzT_some ∧ type_of% @fz_lst ∧ type_of% @fzL_t ∧ type_of% @fz_own ∧ type_of% @fzO_us ∧ type_of% @fzO_usH ∧ type_of% @rget0 ∧ type_of% @rgetS ∧ type_of% @pAs_nil ∧ type_of% @pAs_cons ∧ type_of% @pA_int ∧ type_of% @pA_bool ∧ type_of% @pA_lit ∧ type_of% @pA_emp ∧ type_of% @pA_lst ∧ type_of% @pA_agg ∧ type_of% @pAs_app ∧ type_of% @us_pure ∧ type_of% @us_length ∧ type_of% @us_take ∧ type_of% @us_drop ∧ type_of% @us_nil ∧ type_of% @Bool.and_true ∧ type_of% @Bool.true_and ∧ type_of% @Nat.mul_one ∧ type_of% @Nat.zero_add ∧ type_of% @Nat.add_zero ∧ type_of% @true_and ∧ type_of% @and_true ∧ type_of% @List.drop_zero.{0} ∧ type_of% @List.length_replicate.{0} ∧ type_of% @Nat.le_refl ∧ type_of% @false_implies ∧ type_of% @Bool.false_eq_true ∧ type_of% @iteT ∧ type_of% @nrm_int ∧ type_of% @nrm_bool ∧ type_of% @nrm_lit ∧ type_of% @nrm_emp ∧ type_of% @nrm_agg ∧ type_of% @nrm_tup ∧ type_of% @nrm_lst ∧ type_of% @nrms_nil ∧ type_of% @nrms_cons ∧ type_of% @nrms_us :=
  ⟨@aress_cons, @aress_nil, @ares_tmp, @ares_cell, @aresC_some, @aresO_some, @finX_some, @finY_some, @one_1, @one_0, @one_2, @fzs_nil, @fzs_cons, @fzC_some, @fz_int, @fz_bool, @fz_lit, @fz_emp, @fz_agg, @fz_tup, @fzA_some, @fzT_some, @fz_lst, @fzL_t, @fz_own, @fzO_us, @fzO_usH, @rget0, @rgetS, @pAs_nil, @pAs_cons, @pA_int, @pA_bool, @pA_lit, @pA_emp, @pA_lst, @pA_agg, @pAs_app, @us_pure, @us_length, @us_take, @us_drop, @us_nil, @Bool.and_true, @Bool.true_and, @Nat.mul_one, @Nat.zero_add, @Nat.add_zero, @true_and, @and_true, @List.drop_zero.{0}, @List.length_replicate.{0}, @Nat.le_refl, @false_implies, @Bool.false_eq_true, @iteT, @nrm_int, @nrm_bool, @nrm_lit, @nrm_emp, @nrm_agg, @nrm_tup, @nrm_lst, @nrms_nil, @nrms_cons, @nrms_us⟩
theorem bz : type_of% @fzO_us ∧ type_of% @fzO_usH ∧ type_of% @fzs_nil ∧ type_of% @fzs_cons ∧ type_of% @fzC_some ∧ type_of% @fz_int ∧ type_of% @fz_bool ∧ type_of% @fz_lit ∧ type_of% @fz_emp ∧ type_of% @fz_agg ∧ type_of% @fz_tup ∧ type_of% @fzA_some ∧ type_of% @fzT_some ∧ type_of% @fz_lst ∧ type_of% @fzL_t ∧ type_of% @fz_own ∧ type_of% @rget0 ∧ type_of% @rgetS ∧ type_of% @pAs_nil ∧ type_of% @pAs_cons ∧ type_of% @pA_int ∧ type_of% @pA_bool ∧ type_of% @pA_lit ∧ type_of% @pA_emp ∧ type_of% @pA_lst ∧ type_of% @pA_agg ∧ type_of% @pAs_app ∧ type_of% @us_pure ∧ type_of% @us_length ∧ type_of% @us_take ∧ type_of% @us_drop ∧ type_of% @us_nil ∧ type_of% @Bool.and_true ∧ type_of% @Bool.true_and ∧ type_of% @Nat.mul_one ∧ type_of% @Nat.zero_add ∧ type_of% @Nat.add_zero ∧ type_of% @true_and ∧ type_of% @and_true ∧ type_of% @List.drop_zero.{0} ∧ type_of% @List.length_replicate.{0} ∧ type_of% @Nat.le_refl ∧ type_of% @false_implies ∧ type_of% @Bool.false_eq_true :=
  ⟨@fzO_us, @fzO_usH, @fzs_nil, @fzs_cons, @fzC_some, @fz_int, @fz_bool, @fz_lit, @fz_emp, @fz_agg, @fz_tup, @fzA_some, @fzT_some, @fz_lst, @fzL_t, @fz_own, @rget0, @rgetS, @pAs_nil, @pAs_cons, @pA_int, @pA_bool, @pA_lit, @pA_emp, @pA_lst, @pA_agg, @pAs_app, @us_pure, @us_length, @us_take, @us_drop, @us_nil, @Bool.and_true, @Bool.true_and, @Nat.mul_one, @Nat.zero_add, @Nat.add_zero, @true_and, @and_true, @List.drop_zero.{0}, @List.length_replicate.{0}, @Nat.le_refl, @false_implies, @Bool.false_eq_true⟩
theorem aA {K : St → Prop} {s : St} {d : Dum K} (h : K s) : aft K d s := h
theorem Gs {id : Nat} {ops : Array Oper} {draw : Bool} {y : Code} {Q : Exit → St → Prop} {st : St} (h : XOps Go.Proofs.Tryd.prog Go.Proofs.GEs [] ops.toList st (aft (AWp Go.Proofs.Tryd.prog Go.Proofs.GEs y Q) ⟨⟩)) (hd : (!draw || lexA ops) = true := by first | rfl | kernel_rfl) : AWp Go.Proofs.Tryd.prog Go.Proofs.GEs (.seq (.region id ops draw) y) Q st := G_sreg Go.Proofs.mixed hd h
theorem Gr {id : Nat} {ops : Array Oper} {draw : Bool} {Q : Exit → St → Prop} {st : St} (h : XOps Go.Proofs.Tryd.prog Go.Proofs.GEs [] ops.toList st (aft (Q .normal) ⟨⟩)) (hd : (!draw || lexA ops) = true := by first | rfl | kernel_rfl) : AWp Go.Proofs.Tryd.prog Go.Proofs.GEs (.region id ops draw) Q st := G_reg Go.Proofs.mixed hd h
theorem cR {P : Program} {GE : Nat → Option (List AV)} {rows : List Row} {g : FuncId} {args args' : List AV} {r : AV} {k : AV → Prop} (h : Ret P GE g args' r) (hk : k r) (hf : fzs true rows args = some args' := by (simp (disch := omega) only [if_true, forall_const, reduceCtorEq, implies_true, bz]) <;> rfl) : callK P GE rows (.lit (.func (.func g) #[] #[])) args k := callK_ret h hf hk
theorem sX {A B : Prop} (h : B) (t : PLift B → A := by intro h; simp (disch := omega) only [u, i64, ax, eq_self, if_true, if_false, Nat.reduceAdd, Int.reduceToNat, Int.reduceAdd, tvs, bs]; exact h.down) : A := t ⟨h⟩
theorem gS {A B : Prop} (h : B) (t : PLift B → A := by intro h; (first | refine G_seq ?_ | refine G_block ?_ | refine G_condT rfl ?_ | refine G_condF rfl ?_ | refine G_skip ?_ | refine G_ret ?_ | refine G_exit ?_ | refine q_tn ?_ | refine q_tr ?_ | refine q_tx ?_ | refine q_bn ?_ | refine q_br ?_ | refine q_bx ?_ | refine q_by (by decide) ?_); exact h.down) : A := t ⟨h⟩
theorem gT {A B : Prop} (h : B) (t : PLift B → A := by intro h; (first | ((first | refine Gs ?_ | refine Gr ?_); simp (disch := omega) only [u, i64, ax, eq_self, if_true, if_false, Nat.reduceAdd, Int.reduceToNat, Int.reduceAdd, tvs, bs]; refine aA ?_) | refine G_seq ?_ | refine G_block ?_ | refine G_condT rfl ?_ | refine G_condF rfl ?_ | refine G_skip ?_ | refine G_ret ?_ | refine G_exit ?_ | refine q_tn ?_ | refine q_tr ?_ | refine q_tx ?_ | refine q_bn ?_ | refine q_br ?_ | refine q_bx ?_ | refine q_by (by decide) ?_); exact h.down) : A := t ⟨h⟩
theorem gO {A B : Prop} (h : B) (t : PLift B → A := by intro h; (repeat (first | ((first | refine Gs ?_ | refine Gr ?_); simp (disch := omega) only [u, i64, ax, eq_self, if_true, if_false, Nat.reduceAdd, Int.reduceToNat, Int.reduceAdd, tvs, bs]; refine aA ?_) | refine G_seq ?_ | refine G_block ?_ | refine G_condT rfl ?_ | refine G_condF rfl ?_ | refine G_skip ?_ | refine G_ret ?_ | refine G_exit ?_ | refine q_tn ?_ | refine q_tr ?_ | refine q_tx ?_ | refine q_bn ?_ | refine q_br ?_ | refine q_bx ?_ | refine q_by (by decide) ?_)); exact h.down) : A := t ⟨h⟩
theorem gC {A B : Prop} (h : B) (t : PLift B → A := by intro h; (first | refine Gs ?_ | refine Gr ?_); simp (disch := omega) only [u, i64, ax, eq_self, if_true, if_false, Nat.reduceAdd, Int.reduceToNat, Int.reduceAdd, tvs, bs]; exact h.down) : A := t ⟨h⟩
end Go.Ax
