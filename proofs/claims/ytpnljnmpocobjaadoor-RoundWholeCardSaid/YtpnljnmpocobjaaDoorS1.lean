/-
  What the library and the two listed variables give the walks of this seat.
-/
import Derived.Test.YtpnljnmpocobjaaDoorA5
import Derived.KernelRfl
import Derived.Shelf.Strconv.Itoa0
import Derived.Shelf.Bits.Mul64
import Derived.Shelf.Spec.TrailingZeros
import Derived.Laws.Externs
import Derived.Test.YtpnljnmpocobjaaDoorProg
namespace Go.Proofs
open Go.Shelf Go.Ax Go.RowKit
def Tryd.lays129_ren : Go.Shelf.Ren := ⟨fun | 129 => 148 | n => n, fun | 53 => 113 | 3 => 3 | 4 => 4 | 46 => 213 | 5 => 5 | 9 => 9 | n => n, fun | n => n⟩
theorem Tryd.lays129 : Go.Proofs.Lays.n129 Tryd.prog Tryd.lays129_ren where
  mixed := by kernel_rfl
  f129 := Tryd.func148.trans (congrArg some (by kernel_rfl))
  t3 := Tryd.underlying3
  a3 := Tryd.isAgg3
  z3 := Tryd.sizeOf3
  v3 := Tryd.zeroValue3
  t4 := Tryd.underlying4
  a4 := Tryd.isAgg4
  z4 := Tryd.sizeOf4
  v4 := Tryd.zeroValue4
  t5 := Tryd.underlying5
  a5 := Tryd.isAgg5
  z5 := Tryd.sizeOf5
  v5 := Tryd.zeroValue5
  t9 := Tryd.underlying9
  a9 := Tryd.isAgg9
  z9 := Tryd.sizeOf9
  v9 := Tryd.zeroValue9
  t46 := Tryd.underlying213
  a46 := Tryd.isAgg213
  z46 := Tryd.sizeOf213
  v46 := Tryd.zeroValue213
  t53 := Tryd.underlying113
  a53 := Tryd.isAgg113
  z53 := Tryd.sizeOf113
  v53 := Tryd.zeroValue113
def Tryd.lays264_ren : Go.Shelf.Ren := ⟨fun | 264 => 168 | n => n, fun | 53 => 113 | 46 => 213 | n => n, fun | n => n⟩
theorem Tryd.lays264 : Go.Proofs.Lays.n264 Tryd.prog Tryd.lays264_ren where
  mixed := by kernel_rfl
  f264 := Tryd.func168.trans (congrArg some (by kernel_rfl))
  t46 := Tryd.underlying213
  a46 := Tryd.isAgg213
  z46 := Tryd.sizeOf213
  v46 := Tryd.zeroValue213
  t53 := Tryd.underlying113
  a53 := Tryd.isAgg113
  z53 := Tryd.sizeOf113
  v53 := Tryd.zeroValue113
def Tryd.lays29_ren : Go.Shelf.Ren := ⟨fun | 29 => 186 | n => n, fun | 22 => 113 | 3 => 3 | 4 => 4 | 25 => 213 | 54 => 225 | 0 => 0 | 5 => 5 | n => n, fun | 1 => 1 | n => n⟩
theorem Tryd.lays29 : Go.Proofs.Lays7.n29 Tryd.prog Tryd.lays29_ren where
  mixed := by kernel_rfl
  f29 := Tryd.func186.trans (congrArg some (by kernel_rfl))
  t0 := Tryd.underlying0
  a0 := Tryd.isAgg0
  z0 := Tryd.sizeOf0
  v0 := Tryd.zeroValue0
  i0 := by kernel_rfl
  t3 := Tryd.underlying3
  a3 := Tryd.isAgg3
  z3 := Tryd.sizeOf3
  v3 := Tryd.zeroValue3
  i3 := by kernel_rfl
  t4 := Tryd.underlying4
  a4 := Tryd.isAgg4
  z4 := Tryd.sizeOf4
  v4 := Tryd.zeroValue4
  i4 := by kernel_rfl
  t5 := Tryd.underlying5
  a5 := Tryd.isAgg5
  z5 := Tryd.sizeOf5
  v5 := Tryd.zeroValue5
  i5 := by kernel_rfl
  t22 := Tryd.underlying113
  a22 := Tryd.isAgg113
  z22 := Tryd.sizeOf113
  v22 := Tryd.zeroValue113
  i22 := by kernel_rfl
  t25 := Tryd.underlying213
  a25 := Tryd.isAgg213
  z25 := Tryd.sizeOf213
  v25 := Tryd.zeroValue213
  i25 := by kernel_rfl
  t54 := Tryd.underlying225
  a54 := Tryd.isAgg225
  z54 := Tryd.sizeOf225
  g1 := by kernel_rfl


def fv (f : Nat) : AV := .lit (.func (.func f) #[] #[])
/-- The variables that the laws' functions read: what stands in them. -/
def GEs : Nat → Option (List AV) := fun g => if g = 0 then some [fv 216, fv 217, fv 218, fv 219, fv 220] else if g = 1 then some (Lib.deBruijn64tab.map fun (n : Nat) => AV.int .u8 (n : Int)) else none

theorem mixed : Tryd.prog.follows .mixedOrders = true := by kernel_rfl

theorem ret_Len64 (x : Nat) (hx : x < 18446744073709551616) : Ret Tryd.prog GEs 148 [u x] (i64 (Lib.bitLen x)) :=
  Ret_int1 ⟨Tryd.f148, by kernel_rfl, rfl, rfl⟩ fun w ok hG => Any.bits_Len64 Tryd.lays129 (x : Int) w (by omega) (by omega)
theorem ret_Mul64 (x y : Nat) (hx : x < 18446744073709551616) (hy : y < 18446744073709551616) : Ret Tryd.prog GEs 168 [u x, u y] (.tup [u (x * y / 18446744073709551616), u (x * y % 18446744073709551616)]) :=
  Ret_word2 ⟨Tryd.f168, by kernel_rfl, rfl, rfl⟩ fun w => Any.bits_Mul64 Tryd.lays264 x y hx hy w
theorem retx_Add64 (x y c : Nat) (hc : c ≤ 1) : RetX Tryd.prog 151 [u x, u y, u c] (.tup [u ((x + y + c) % 18446744073709551616), u ((x + y + c) / 18446744073709551616)]) :=
  RetX_word3 fun w => by
    rw [run_callFunc_extern (P := Tryd.prog) (f := 151) (fn := Tryd.f151) (by kernel_rfl) (by kernel_rfl) (by kernel_rfl) (by kernel_rfl) (e := (Extern.MathBitsCarry.rows.head!).2) (by kernel_rfl)]
    have : c = 0 ∨ c = 1 := by omega
    rcases this with rfl | rfl <;> rfl
theorem retx_Sub64 (x y b : Nat) (hb : b ≤ 1) : RetX Tryd.prog 150 [u x, u y, u b] (.tup [u ((x + 18446744073709551616 - y - b) % 18446744073709551616), u (if x < y + b then 1 else 0)]) :=
  RetX_word3 fun w => by
    rw [run_callFunc_extern (P := Tryd.prog) (f := 150) (fn := Tryd.f150) (by kernel_rfl) (by kernel_rfl) (by kernel_rfl) (by kernel_rfl) (e := (Extern.MathBitsCarry.rows.tail.head!).2) (by kernel_rfl)]
    have : b = 0 ∨ b = 1 := by omega
    rcases this with rfl | rfl <;> rfl

theorem tab_of (w : World) (ok : Nat → Prop) (hG : GRep GEs w ok) : TabAt 1 Lib.deBruijn64tab w := by
  obtain ⟨h1, h2⟩ := hG 1 _ rfl (by decide)
  intro j hj
  obtain ⟨v, hv, hr⟩ := h2.get (i := j) (x := .int .u8 (Lib.deBruijn64tab.getD j 0 : Nat)) (by simp [List.getElem?_map, List.getD_eq_getElem?_getD, List.getElem?_eq_getElem hj])
  rw [show v = _ from hr] at hv
  simpa using hv
theorem ret_TrailingZeros64 (x : Nat) (hx : x < 18446744073709551616) : Ret Tryd.prog GEs 186 [u x] (i64 (Lib.ctz 64 x)) :=
  Ret_int1 ⟨Tryd.f186, by kernel_rfl, rfl, rfl⟩ fun w ok hG => Any7.bits_TrailingZeros64 Tryd.lays29 x hx w fun _ => tab_of w ok hG
end Go.Proofs
