/- Rows of the run, by the kernel. -/
import Derived.Test.YtlipnijnfljdeaaGreatDoorEvQModel1
import Derived.Test.YtlipnijnfljdeaaGreatDoorEvVModel
import Derived.KernelRfl
set_option maxRecDepth 1000000
namespace Go.Ab
def Modelt100 : TbT := (.nd none (.nd none (.nd none (.nd none .lf (.nd none .lf (.nd none .lf (.nd (some [(Modela99, Modelv99)]) .lf .lf)))) .lf) .lf) (.nd none (.nd none .lf (.nd none (.nd none (.nd none .lf (.nd (some [(Modela18, Modelv18)]) .lf .lf)) .lf) .lf)) .lf))
theorem Modelp100 : Pur Go.Proofs.Tryz.prog GG0 10 Modela100 Modelv100 :=
  chk_run (E := { E1 with tb := tbT Modelt100 }) (fuel := 400000) (ex_ok [⟨119, Modela99, Modelv99⟩, ⟨100, Modela18, Modelv18⟩] (by kernel_rfl) ⟨Modelp99, ⟨Modelp18, trivial⟩⟩) (by kernel_rfl)
def Modelt106 : TbT := .lf
theorem Modelp106 : Pur Go.Proofs.Tryz.prog GG0 38 Modela106 Modelv106 :=
  chk_run (E := { E1 with tb := tbT Modelt106 }) (fuel := 400000) (ex_ok [] (by kernel_rfl) trivial) (by kernel_rfl)
def Modelt120 : TbT := .lf
theorem Modelp120 : Pur Go.Proofs.Tryz.prog GG0 23 Modela120 Modelv120 :=
  chk_run (E := { E1 with tb := tbT Modelt120 }) (fuel := 400000) (ex_ok [] (by kernel_rfl) trivial) (by kernel_rfl)
def Modelt122 : TbT := (.nd none (.nd none (.nd none (.nd none .lf (.nd (some [(Modela120, Modelv120)]) .lf .lf)) .lf) .lf) .lf)
theorem Modelp122 : Pur Go.Proofs.Tryz.prog GG0 101 Modela122 Modelv122 :=
  chk_run (E := { E1 with tb := tbT Modelt122 }) (fuel := 400000) (ex_ok [⟨23, Modela120, Modelv120⟩] (by kernel_rfl) ⟨Modelp120, trivial⟩) (by kernel_rfl)
def Modelt126 : TbT := (.nd none (.nd none .lf (.nd none .lf (.nd none (.nd none (.nd none .lf (.nd (some [(Modela122, Modelv122)]) .lf .lf)) .lf) .lf))) (.nd none (.nd none .lf (.nd none (.nd none (.nd none .lf (.nd (some [(Modela18, Modelv18)]) .lf .lf)) .lf) .lf)) (.nd none .lf (.nd none (.nd none (.nd (some [(Modela106, Modelv106)]) .lf .lf) .lf) .lf))))
theorem Modelp126 : Pur Go.Proofs.Tryz.prog GG0 16 Modela126 Modelv126 :=
  chk_run (E := { E1 with tb := tbT Modelt126 }) (fuel := 400000) (ex_ok [⟨101, Modela122, Modelv122⟩, ⟨100, Modela18, Modelv18⟩, ⟨38, Modela106, Modelv106⟩] (by kernel_rfl) ⟨Modelp122, ⟨Modelp18, ⟨Modelp106, trivial⟩⟩⟩) (by kernel_rfl)
def Modelt129 : TbT := (.nd none .lf (.nd none (.nd none (.nd none (.nd (some [(Modela126, Modelv126)]) .lf .lf) .lf) .lf) (.nd none (.nd (some [(Modela100, Modelv100)]) .lf .lf) .lf)))
theorem Modelp129 : Pur Go.Proofs.Tryz.prog GG0 4 Modela129 Modelv129 :=
  chk_run (E := { E1 with tb := tbT Modelt129 }) (fuel := 400000) (ex_ok [⟨16, Modela126, Modelv126⟩, ⟨10, Modela100, Modelv100⟩] (by kernel_rfl) ⟨Modelp126, ⟨Modelp100, trivial⟩⟩) (by kernel_rfl)
theorem law_modelNames : Pur Go.Proofs.Tryz.prog GG0 4 [] (.c (.bool true)) := Modelp129
end Go.Ab
