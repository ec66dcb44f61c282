/- Rows of the run, by the kernel. -/
import Derived.Test.YtlipnijnfljdeaaGreatDoorEvVModel
import Derived.KernelRfl
set_option maxRecDepth 1000000
namespace Go.Ab
def Modelt18 : TbT := .lf
theorem Modelp18 : Pur Go.Proofs.Tryz.prog GG0 100 Modela18 Modelv18 :=
  chk_run (E := { E1 with tb := tbT Modelt18 }) (fuel := 400000) (ex_ok [] (by kernel_rfl) trivial) (by kernel_rfl)
def Modelt51 : TbT := .lf
theorem Modelp51 : Pur Go.Proofs.Tryz.prog GG0 132 Modela51 Modelv51 :=
  chk_run (E := { E1 with tb := tbT Modelt51 }) (fuel := 400000) (ex_ok [] (by kernel_rfl) trivial) (by kernel_rfl)
def Modelt53 : TbT := (.nd none .lf (.nd none (.nd none .lf (.nd none (.nd none (.nd none (.nd none (.nd (some [(Modela51, Modelv51)]) .lf .lf) .lf) .lf) .lf) .lf)) .lf))
theorem Modelp53 : Pur Go.Proofs.Tryz.prog GG0 64 Modela53 Modelv53 :=
  chk_run (E := { E1 with tb := tbT Modelt53 }) (fuel := 400000) (ex_ok [⟨132, Modela51, Modelv51⟩] (by kernel_rfl) ⟨Modelp51, trivial⟩) (by kernel_rfl)
def Modelt63 : TbT := (.nd none .lf (.nd none (.nd none (.nd none (.nd none (.nd none (.nd (some [(Modela53, Modelv53)]) .lf .lf) .lf) .lf) .lf) .lf) .lf))
theorem Modelp63 : Pur Go.Proofs.Tryz.prog GG0 264 Modela63 Modelv63 :=
  chk_run (E := { E1 with tb := tbT Modelt63 }) (fuel := 400000) (ex_ok [⟨64, Modela53, Modelv53⟩] (by kernel_rfl) ⟨Modelp53, trivial⟩) (by kernel_rfl)
def Modelt71 : TbT := .lf
theorem Modelp71 : Pur Go.Proofs.Tryz.prog GG0 132 Modela71 Modelv71 :=
  chk_run (E := { E1 with tb := tbT Modelt71 }) (fuel := 400000) (ex_ok [] (by kernel_rfl) trivial) (by kernel_rfl)
def Modelt73 : TbT := (.nd none .lf (.nd none (.nd none .lf (.nd none (.nd none (.nd none (.nd none (.nd (some [(Modela71, Modelv71)]) .lf .lf) .lf) .lf) .lf) .lf)) .lf))
theorem Modelp73 : Pur Go.Proofs.Tryz.prog GG0 64 Modela73 Modelv73 :=
  chk_run (E := { E1 with tb := tbT Modelt73 }) (fuel := 400000) (ex_ok [⟨132, Modela71, Modelv71⟩] (by kernel_rfl) ⟨Modelp71, trivial⟩) (by kernel_rfl)
def Modelt78 : TbT := (.nd none .lf (.nd none (.nd none (.nd none (.nd none (.nd none (.nd (some [(Modela73, Modelv73)]) .lf .lf) .lf) .lf) .lf) .lf) .lf))
theorem Modelp78 : Pur Go.Proofs.Tryz.prog GG0 264 Modela78 Modelv78 :=
  chk_run (E := { E1 with tb := tbT Modelt78 }) (fuel := 400000) (ex_ok [⟨64, Modela73, Modelv73⟩] (by kernel_rfl) ⟨Modelp73, trivial⟩) (by kernel_rfl)
def Modelt79 : TbT := (.nd none .lf (.nd none (.nd none (.nd none .lf (.nd none (.nd none (.nd none (.nd none (.nd (some [(Modela78, Modelv78), (Modela63, Modelv63)]) .lf .lf) .lf) .lf) .lf) .lf)) .lf) .lf))
theorem Modelp79 : Pur Go.Proofs.Tryz.prog GG0 198 Modela79 Modelv79 :=
  chk_run (E := { E1 with tb := tbT Modelt79 }) (fuel := 400000) (ex_ok [⟨264, Modela78, Modelv78⟩, ⟨264, Modela63, Modelv63⟩] (by kernel_rfl) ⟨Modelp78, ⟨Modelp63, trivial⟩⟩) (by kernel_rfl)
def Modelt89 : TbT := .lf
theorem Modelp89 : Pur Go.Proofs.Tryz.prog GG0 333 Modela89 Modelv89 :=
  chk_run (E := { E1 with tb := tbT Modelt89 }) (fuel := 400000) (ex_ok [] (by kernel_rfl) trivial) (by kernel_rfl)
def Modelt90 : TbT := (.nd none (.nd none .lf (.nd none .lf (.nd none .lf (.nd none (.nd none (.nd none .lf (.nd none (.nd (some [(Modela89, Modelv89)]) .lf .lf) .lf)) .lf) .lf)))) (.nd none (.nd none (.nd none (.nd none (.nd none (.nd (some [(Modela73, Modelv73)]) .lf .lf) .lf) .lf) .lf) .lf) .lf))
theorem Modelp90 : Pur Go.Proofs.Tryz.prog GG0 266 Modela90 Modelv90 :=
  chk_run (E := { E1 with tb := tbT Modelt90 }) (fuel := 400000) (ex_ok [⟨333, Modela89, Modelv89⟩, ⟨64, Modela73, Modelv73⟩] (by kernel_rfl) ⟨Modelp89, ⟨Modelp73, trivial⟩⟩) (by kernel_rfl)
def Modelt97 : TbT := .lf
theorem Modelp97 : Pur Go.Proofs.Tryz.prog GG0 333 Modela97 Modelv97 :=
  chk_run (E := { E1 with tb := tbT Modelt97 }) (fuel := 400000) (ex_ok [] (by kernel_rfl) trivial) (by kernel_rfl)
def Modelt98 : TbT := (.nd none (.nd none .lf (.nd none .lf (.nd none .lf (.nd none (.nd none (.nd none .lf (.nd none (.nd (some [(Modela97, Modelv97)]) .lf .lf) .lf)) .lf) .lf)))) (.nd none (.nd none (.nd none (.nd none (.nd none (.nd (some [(Modela53, Modelv53)]) .lf .lf) .lf) .lf) .lf) .lf) .lf))
theorem Modelp98 : Pur Go.Proofs.Tryz.prog GG0 266 Modela98 Modelv98 :=
  chk_run (E := { E1 with tb := tbT Modelt98 }) (fuel := 400000) (ex_ok [⟨333, Modela97, Modelv97⟩, ⟨64, Modela53, Modelv53⟩] (by kernel_rfl) ⟨Modelp97, ⟨Modelp53, trivial⟩⟩) (by kernel_rfl)
def Modelt99 : TbT := (.nd none .lf (.nd none .lf (.nd none (.nd none .lf (.nd none (.nd none (.nd none (.nd none (.nd (some [(Modela98, Modelv98), (Modela90, Modelv90)]) .lf .lf) .lf) .lf) .lf) .lf)) (.nd none (.nd none (.nd none (.nd none .lf (.nd (some [(Modela79, Modelv79)]) .lf .lf)) .lf) .lf) .lf))))
theorem Modelp99 : Pur Go.Proofs.Tryz.prog GG0 119 Modela99 Modelv99 :=
  chk_run (E := { E1 with tb := tbT Modelt99 }) (fuel := 400000) (ex_ok [⟨266, Modela98, Modelv98⟩, ⟨266, Modela90, Modelv90⟩, ⟨198, Modela79, Modelv79⟩] (by kernel_rfl) ⟨Modelp98, ⟨Modelp90, ⟨Modelp79, trivial⟩⟩⟩) (by kernel_rfl)
end Go.Ab
