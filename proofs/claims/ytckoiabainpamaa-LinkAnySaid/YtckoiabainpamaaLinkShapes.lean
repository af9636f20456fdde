/-
  The shapes of the arguments of the laws of layer 10. No condition.
-/
import Derived.Test.YtckoiabainpamaaLinkApart
import Derived.Test.YtckoiabainpamaaOpenI
import Derived.Test.YtckoiabainpamaaFrames
namespace Go.Proofs.Ytckoiabainpamaa
theorem ci3 : CRI Try.prog 3 1 := CRI.int (by kernel_rfl) (by kernel_rfl)
theorem ci49 : CRI Try.prog 49 2 := CRI.array arr49.und ci3 (by kernel_rfl)
end Go.Proofs.Ytckoiabainpamaa
