/- Rows of the run, by the kernel. -/
import Derived.Test.YtlipnijnfljdeaaGreatDoorEvQStep1
import Derived.Test.YtlipnijnfljdeaaGreatDoorEvVStep
import Derived.KernelRfl
set_option maxRecDepth 1000000
namespace Go.Ab
def Stept124 : TbT := (.nd none (.nd none (.nd none (.nd none .lf (.nd none .lf (.nd none .lf (.nd (some [(Stepa123, Stepv123)]) .lf .lf)))) .lf) .lf) (.nd none (.nd none (.nd none (.nd (some [(Stepa30, Stepv30)]) .lf .lf) .lf) (.nd none (.nd none (.nd none .lf (.nd (some [(Stepa25, Stepv25)]) .lf .lf)) .lf) .lf)) (.nd none .lf (.nd none .lf (.nd none (.nd none (.nd none .lf (.nd (some [(Stepa48, Stepv48)]) .lf .lf)) .lf) .lf)))))
theorem Stepp124 : Pur Go.Proofs.Tryz.prog GG0 14 Stepa124 Stepv124 :=
  chk_run (E := { E1 with tb := tbT Stept124 }) (fuel := 400000) (ex_ok [⟨119, Stepa123, Stepv123⟩, ⟨206, Stepa48, Stepv48⟩, ⟨100, Stepa25, Stepv25⟩, ⟨16, Stepa30, Stepv30⟩] (by kernel_rfl) ⟨Stepp123, ⟨Stepp48, ⟨Stepp25, ⟨Stepp30, trivial⟩⟩⟩⟩) (by kernel_rfl)
def Stept130 : TbT := .lf
theorem Stepp130 : Pur Go.Proofs.Tryz.prog GG0 38 Stepa130 Stepv130 :=
  chk_run (E := { E1 with tb := tbT Stept130 }) (fuel := 400000) (ex_ok [] (by kernel_rfl) trivial) (by kernel_rfl)
def Stept144 : TbT := .lf
theorem Stepp144 : Pur Go.Proofs.Tryz.prog GG0 23 Stepa144 Stepv144 :=
  chk_run (E := { E1 with tb := tbT Stept144 }) (fuel := 400000) (ex_ok [] (by kernel_rfl) trivial) (by kernel_rfl)
def Stept146 : TbT := (.nd none (.nd none (.nd none (.nd none .lf (.nd (some [(Stepa144, Stepv144)]) .lf .lf)) .lf) .lf) .lf)
theorem Stepp146 : Pur Go.Proofs.Tryz.prog GG0 101 Stepa146 Stepv146 :=
  chk_run (E := { E1 with tb := tbT Stept146 }) (fuel := 400000) (ex_ok [⟨23, Stepa144, Stepv144⟩] (by kernel_rfl) ⟨Stepp144, trivial⟩) (by kernel_rfl)
def Stept150 : TbT := (.nd none (.nd none .lf (.nd none .lf (.nd none (.nd none (.nd none .lf (.nd (some [(Stepa146, Stepv146)]) .lf .lf)) .lf) .lf))) (.nd none (.nd none .lf (.nd none (.nd none (.nd none .lf (.nd (some [(Stepa25, Stepv25)]) .lf .lf)) .lf) .lf)) (.nd none .lf (.nd none (.nd none (.nd (some [(Stepa130, Stepv130)]) .lf .lf) .lf) .lf))))
theorem Stepp150 : Pur Go.Proofs.Tryz.prog GG0 16 Stepa150 Stepv150 :=
  chk_run (E := { E1 with tb := tbT Stept150 }) (fuel := 400000) (ex_ok [⟨101, Stepa146, Stepv146⟩, ⟨100, Stepa25, Stepv25⟩, ⟨38, Stepa130, Stepv130⟩] (by kernel_rfl) ⟨Stepp146, ⟨Stepp25, ⟨Stepp130, trivial⟩⟩⟩) (by kernel_rfl)
end Go.Ab
