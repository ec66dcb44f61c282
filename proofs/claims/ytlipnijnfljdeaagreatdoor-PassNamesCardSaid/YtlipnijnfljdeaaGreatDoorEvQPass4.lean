/- Rows of the run, by the kernel. -/
import Derived.Test.YtlipnijnfljdeaaGreatDoorEvQPass1
import Derived.Test.YtlipnijnfljdeaaGreatDoorEvQPass2
import Derived.Test.YtlipnijnfljdeaaGreatDoorEvQPass3
import Derived.Test.YtlipnijnfljdeaaGreatDoorEvVPass
import Derived.KernelRfl
set_option maxRecDepth 1000000
namespace Go.Ab
def Passt279 : TbT := (.nd none (.nd none .lf (.nd none .lf (.nd none .lf (.nd none (.nd none (.nd none .lf (.nd none (.nd (some [(Passa278, Passv278)]) .lf .lf) .lf)) .lf) .lf)))) (.nd none (.nd none (.nd none (.nd none (.nd none (.nd (some [(Passa155, Passv155)]) .lf .lf) .lf) .lf) .lf) .lf) .lf))
theorem Passp279 : Pur Go.Proofs.Tryz.prog GG0 266 Passa279 Passv279 :=
  chk_run (E := { E1 with tb := tbT Passt279 }) (fuel := 400000) (ex_ok [⟨333, Passa278, Passv278⟩, ⟨64, Passa155, Passv155⟩] (by kernel_rfl) ⟨Passp278, ⟨Passp155, trivial⟩⟩) (by kernel_rfl)
def Passt280 : TbT := (.nd none .lf (.nd none .lf (.nd none (.nd none .lf (.nd none (.nd none (.nd none (.nd none (.nd (some [(Passa279, Passv279), (Passa272, Passv272), (Passa265, Passv265)]) .lf .lf) .lf) .lf) .lf) .lf)) (.nd none (.nd none (.nd none (.nd none .lf (.nd (some [(Passa257, Passv257)]) .lf .lf)) .lf) .lf) .lf))))
theorem Passp280 : Pur Go.Proofs.Tryz.prog GG0 119 Passa280 Passv280 :=
  chk_run (E := { E1 with tb := tbT Passt280 }) (fuel := 400000) (ex_ok [⟨266, Passa279, Passv279⟩, ⟨266, Passa272, Passv272⟩, ⟨266, Passa265, Passv265⟩, ⟨198, Passa257, Passv257⟩] (by kernel_rfl) ⟨Passp279, ⟨Passp272, ⟨Passp265, ⟨Passp257, trivial⟩⟩⟩⟩) (by kernel_rfl)
def Passt283 : TbT := .lf
theorem Passp283 : Pur Go.Proofs.Tryz.prog GG0 23 Passa283 Passv283 :=
  chk_run (E := { E1 with tb := tbT Passt283 }) (fuel := 400000) (ex_ok [] (by kernel_rfl) trivial) (by kernel_rfl)
def Passt286 : TbT := (.nd none .lf (.nd none (.nd none (.nd none (.nd none (.nd none (.nd (some [(Passa105, Passv105), (Passa125, Passv125)]) .lf .lf) .lf) .lf) .lf) .lf) .lf))
theorem Passp286 : Pur Go.Proofs.Tryz.prog GG0 177 Passa286 Passv286 :=
  chk_run (E := { E1 with tb := tbT Passt286 }) (fuel := 400000) (ex_ok [⟨64, Passa105, Passv105⟩, ⟨64, Passa125, Passv125⟩] (by kernel_rfl) ⟨Passp105, ⟨Passp125, trivial⟩⟩) (by kernel_rfl)
end Go.Ab
