/- The tables are the program's. -/
import Derived.Test.YtchodnhlkdlgmaaGreatDoorEvYD
import Derived.KernelRfl
namespace Go.Ab
theorem gp0 : GPure GG0 := fun g cs h => by
  unfold GG0 at h
  split at h
  · cases h; rfl
  · cases h
noncomputable def f71 : Func := (Go.Proofs.Tryz.prog.funcs[71]?).getD default
theorem mz0 : MZ Go.Proofs.Tryz.prog 71 := ⟨f71, #[3], 36, 5, by kernel_rfl, by kernel_rfl, by kernel_rfl, by kernel_rfl, by kernel_rfl, by kernel_rfl⟩
theorem mz_ok : ∀ f, E0.mz = some f → MZ Go.Proofs.Tryz.prog f := fun f h => by
  obtain rfl : 71 = f := Option.some.inj h
  exact mz0
theorem e0_ok : EOk Go.Proofs.Tryz.prog E0 := ⟨by kernel_rfl, te_ok, ft_ok, gp0, (fun f args v h => by cases h), mz_ok⟩
end Go.Ab
