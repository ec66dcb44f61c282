/- Rows of the run, by the kernel. -/
import Derived.Test.YtlipnijnfljdeaaGreatDoorEvQStep1
import Derived.Test.YtlipnijnfljdeaaGreatDoorEvQStep2
import Derived.Test.YtlipnijnfljdeaaGreatDoorEvVStep
import Derived.KernelRfl
set_option maxRecDepth 1000000
namespace Go.Ab
def Stept154 : TbT := (.nd none (.nd none (.nd none (.nd none .lf (.nd (some [(Stepa144, Stepv144)]) .lf .lf)) .lf) .lf) (.nd none (.nd none (.nd none (.nd (some [(Stepa150, Stepv150)]) .lf .lf) .lf) (.nd none (.nd none (.nd none .lf (.nd (some [(Stepa25, Stepv25)]) .lf .lf)) .lf) .lf)) .lf))
theorem Stepp154 : Pur Go.Proofs.Tryz.prog GG0 14 Stepa154 Stepv154 :=
  chk_run (E := { E1 with tb := tbT Stept154 }) (fuel := 400000) (ex_ok [⟨23, Stepa144, Stepv144⟩, ⟨100, Stepa25, Stepv25⟩, ⟨16, Stepa150, Stepv150⟩] (by kernel_rfl) ⟨Stepp144, ⟨Stepp25, ⟨Stepp150, trivial⟩⟩⟩) (by kernel_rfl)
def Stept159 : TbT := (.nd none .lf (.nd none (.nd none (.nd none (.nd (some [(Stepa150, Stepv150)]) .lf .lf) .lf) .lf) (.nd none .lf (.nd (some [(Stepa154, Stepv154), (Stepa124, Stepv124)]) .lf .lf))))
theorem Stepp159 : Pur Go.Proofs.Tryz.prog GG0 5 Stepa159 Stepv159 :=
  chk_run (E := { E1 with tb := tbT Stept159 }) (fuel := 400000) (ex_ok [⟨16, Stepa150, Stepv150⟩, ⟨14, Stepa154, Stepv154⟩, ⟨14, Stepa124, Stepv124⟩] (by kernel_rfl) ⟨Stepp150, ⟨Stepp154, ⟨Stepp124, trivial⟩⟩⟩) (by kernel_rfl)
theorem law_stepNames : Pur Go.Proofs.Tryz.prog GG0 5 [] (.c (.bool true)) := Stepp159
end Go.Ab
