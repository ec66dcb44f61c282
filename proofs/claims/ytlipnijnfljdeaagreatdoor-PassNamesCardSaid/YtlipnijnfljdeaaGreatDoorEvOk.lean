/- The tables are the program's. -/
import Derived.Test.YtlipnijnfljdeaaGreatDoorEvYD
import Derived.KernelRfl
namespace Go.Ab
theorem gp0 : GPure GG0 := fun g cs h => by
  unfold GG0 at h
  split at h
  · cases h; rfl
  · cases h
theorem e0_ok : EOk Go.Proofs.Tryz.prog E0 := ⟨by kernel_rfl, te_ok, ft_ok, gp0, (fun f args v h => by cases h)⟩
end Go.Ab
