/-
  VoteOnce: its arguments. No condition.
-/
import Derived.Test.YtaeapoidigglnaaOnceMain
namespace Go.Proofs.Ytaeapoidigglnaa
open Go.RowKit
theorem ci3o : CRI Try.prog 3 1 := CRI.int (by kernel_rfl) (by kernel_rfl)
theorem ci85 : CRI Try.prog 85 6 := CRI.struct (l := [(3, 0), (3, 1), (3, 2), (27, 3)]) (by kernel_rfl) (by kernel_rfl) (by kernel_rfl) (.cons ci3o (.cons ci3o (.cons ci3o (.cons ci27 .nil))))
theorem cr79 : CR Try.prog 79 [pSlice (List.replicate 6 pInt)] := CR.slice (by_ := 48) Try.underlying79 ci85 (by kernel_rfl) (by decide) (by kernel_rfl) (by decide)
theorem once_cells (w0 : World) (a : Option Addr) (len c : Nat) (row : Nat → List Value) (a' : Option Addr) (len' c' : Nat) (row' : Nat → List Value) (h : SlArg w0 a len c (List.replicate 3 pInt) row) (h' : SlArg w0 a' len' c' (List.replicate 6 pInt) row') :
    Calls Try.prog 17 #[.slice a len c, .slice a' len' c'] w0 fun e w' => e = .returned (.bool true) ∧ Below w0.heap.size w0 w' := by
  obtain ⟨r, hr⟩ := h.ints
  obtain ⟨r', hr'⟩ := h'.ints
  exact once_walk w0 a len c r hr a' len' c' r' hr'
end Go.Proofs.Ytaeapoidigglnaa
