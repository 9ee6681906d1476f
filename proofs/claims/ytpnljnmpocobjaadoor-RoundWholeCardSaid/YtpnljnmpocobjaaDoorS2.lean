/-
  What the library and the two listed variables give the walks of this seat.
-/
import Derived.Test.YtpnljnmpocobjaaDoorS1
set_option linter.unusedVariables false
namespace Go.Proofs
open Go.Ax Go.RowKit
def ext1 (f : FuncId) (x : Nat) : Option AV :=
  if x < 18446744073709551616 then
    if f = 148 then some (i64 (Lib.bitLen x)) else if f = 186 then some (i64 (Lib.ctz 64 x)) else none
  else none
def ext2 (f : FuncId) (x y : Nat) : Option AV :=
  if f = 168 ∧ x < 18446744073709551616 ∧ y < 18446744073709551616 then some (.tup [u (x * y / 18446744073709551616), u (x * y % 18446744073709551616)]) else none
def ext3 (f : FuncId) (x y c : Nat) : Option AV :=
  if c ≤ 1 then
    if f = 151 then some (.tup [u ((x + y + c) % 18446744073709551616), u ((x + y + c) / 18446744073709551616)])
    else if f = 150 then some (.tup [u ((x + 18446744073709551616 - y - c) % 18446744073709551616), u (if x < y + c then 1 else 0)]) else none
  else none
/-- The contracts that a run may use. -/
def exts (f : FuncId) (xs : List AV) : Option AV := match xs with
  | [.int .u64 (.ofNat x)] => ext1 f x
  | [.int .u64 (.ofNat x), .int .u64 (.ofNat y)] => ext2 f x y
  | [.int .u64 (.ofNat x), .int .u64 (.ofNat y), .int .u64 (.ofNat c)] => ext3 f x y c
  | _ => none
theorem exts_sound (f : FuncId) (xs : List AV) (r : AV) (h : exts f xs = some r) : Ret Tryd.prog GEs f xs r ∨ RetX Tryd.prog f xs r := by
  unfold exts at h
  split at h
  · rename_i x
    unfold ext1 at h
    split at h
    · rename_i hx
      split at h
      · rename_i hf; subst hf; cases h; exact .inl (ret_Len64 x hx)
      · split at h
        · rename_i hf; subst hf; cases h; exact .inl (ret_TrailingZeros64 x hx)
        · cases h
    · cases h
  · unfold ext2 at h
    split at h
    · rename_i hx; obtain ⟨rfl, hx, hy⟩ := hx; cases h; exact .inl (ret_Mul64 _ _ hx hy)
    · cases h
  · unfold ext3 at h
    split at h
    · rename_i hc
      split at h
      · rename_i hf; subst hf; cases h; exact .inr (retx_Add64 _ _ _ hc)
      · split at h
        · rename_i hf; subst hf; cases h; exact .inr (retx_Sub64 _ _ _ hc)
        · cases h
    · cases h
  · cases h
theorem ran {n : Nat} {f : FuncId} {xs : List AV} {r : AV} (h : xrun Tryd.prog GEs exts n f xs = some r) : Ret Tryd.prog GEs f xs r := xrun_sound mixed exts_sound h
end Go.Proofs
