/- Rows of the run, by the kernel. -/
import Derived.Test.YtlipnijnfljdeaaGreatDoorEvQPass1
import Derived.Test.YtlipnijnfljdeaaGreatDoorEvVPass
import Derived.KernelRfl
set_option maxRecDepth 1000000
namespace Go.Ab
def Passt153 : TbT := .lf
theorem Passp153 : Pur Go.Proofs.Tryz.prog GG0 132 Passa153 Passv153 :=
  chk_run (E := { E1 with tb := tbT Passt153 }) (fuel := 400000) (ex_ok [] (by kernel_rfl) trivial) (by kernel_rfl)
def Passt155 : TbT := (.nd none .lf (.nd none (.nd none .lf (.nd none (.nd none (.nd none (.nd none (.nd (some [(Passa153, Passv153)]) .lf .lf) .lf) .lf) .lf) .lf)) .lf))
theorem Passp155 : Pur Go.Proofs.Tryz.prog GG0 64 Passa155 Passv155 :=
  chk_run (E := { E1 with tb := tbT Passt155 }) (fuel := 400000) (ex_ok [⟨132, Passa153, Passv153⟩] (by kernel_rfl) ⟨Passp153, trivial⟩) (by kernel_rfl)
def Passt160 : TbT := (.nd none .lf (.nd none (.nd none (.nd none (.nd none (.nd none (.nd (some [(Passa155, Passv155)]) .lf .lf) .lf) .lf) .lf) .lf) .lf))
theorem Passp160 : Pur Go.Proofs.Tryz.prog GG0 264 Passa160 Passv160 :=
  chk_run (E := { E1 with tb := tbT Passt160 }) (fuel := 400000) (ex_ok [⟨64, Passa155, Passv155⟩] (by kernel_rfl) ⟨Passp155, trivial⟩) (by kernel_rfl)
def Passt161 : TbT := (.nd none .lf (.nd none (.nd none (.nd none .lf (.nd none (.nd none (.nd none (.nd none (.nd (some [(Passa160, Passv160), (Passa145, Passv145), (Passa130, Passv130), (Passa115, Passv115)]) .lf .lf) .lf) .lf) .lf) .lf)) .lf) .lf))
theorem Passp161 : Pur Go.Proofs.Tryz.prog GG0 198 Passa161 Passv161 :=
  chk_run (E := { E1 with tb := tbT Passt161 }) (fuel := 400000) (ex_ok [⟨264, Passa160, Passv160⟩, ⟨264, Passa145, Passv145⟩, ⟨264, Passa130, Passv130⟩, ⟨264, Passa115, Passv115⟩] (by kernel_rfl) ⟨Passp160, ⟨Passp145, ⟨Passp130, ⟨Passp115, trivial⟩⟩⟩⟩) (by kernel_rfl)
def Passt173 : TbT := .lf
theorem Passp173 : Pur Go.Proofs.Tryz.prog GG0 333 Passa173 Passv173 :=
  chk_run (E := { E1 with tb := tbT Passt173 }) (fuel := 400000) (ex_ok [] (by kernel_rfl) trivial) (by kernel_rfl)
def Passt174 : TbT := (.nd none (.nd none .lf (.nd none .lf (.nd none .lf (.nd none (.nd none (.nd none .lf (.nd none (.nd (some [(Passa173, Passv173)]) .lf .lf) .lf)) .lf) .lf)))) (.nd none (.nd none (.nd none (.nd none (.nd none (.nd (some [(Passa125, Passv125)]) .lf .lf) .lf) .lf) .lf) .lf) .lf))
theorem Passp174 : Pur Go.Proofs.Tryz.prog GG0 266 Passa174 Passv174 :=
  chk_run (E := { E1 with tb := tbT Passt174 }) (fuel := 400000) (ex_ok [⟨333, Passa173, Passv173⟩, ⟨64, Passa125, Passv125⟩] (by kernel_rfl) ⟨Passp173, ⟨Passp125, trivial⟩⟩) (by kernel_rfl)
def Passt183 : TbT := .lf
theorem Passp183 : Pur Go.Proofs.Tryz.prog GG0 333 Passa183 Passv183 :=
  chk_run (E := { E1 with tb := tbT Passt183 }) (fuel := 400000) (ex_ok [] (by kernel_rfl) trivial) (by kernel_rfl)
def Passt184 : TbT := (.nd none (.nd none .lf (.nd none .lf (.nd none .lf (.nd none (.nd none (.nd none .lf (.nd none (.nd (some [(Passa183, Passv183)]) .lf .lf) .lf)) .lf) .lf)))) (.nd none (.nd none (.nd none (.nd none (.nd none (.nd (some [(Passa105, Passv105)]) .lf .lf) .lf) .lf) .lf) .lf) .lf))
theorem Passp184 : Pur Go.Proofs.Tryz.prog GG0 266 Passa184 Passv184 :=
  chk_run (E := { E1 with tb := tbT Passt184 }) (fuel := 400000) (ex_ok [⟨333, Passa183, Passv183⟩, ⟨64, Passa105, Passv105⟩] (by kernel_rfl) ⟨Passp183, ⟨Passp105, trivial⟩⟩) (by kernel_rfl)
def Passt193 : TbT := .lf
theorem Passp193 : Pur Go.Proofs.Tryz.prog GG0 333 Passa193 Passv193 :=
  chk_run (E := { E1 with tb := tbT Passt193 }) (fuel := 400000) (ex_ok [] (by kernel_rfl) trivial) (by kernel_rfl)
def Passt194 : TbT := (.nd none (.nd none .lf (.nd none .lf (.nd none .lf (.nd none (.nd none (.nd none .lf (.nd none (.nd (some [(Passa193, Passv193)]) .lf .lf) .lf)) .lf) .lf)))) (.nd none (.nd none (.nd none (.nd none (.nd none (.nd (some [(Passa140, Passv140)]) .lf .lf) .lf) .lf) .lf) .lf) .lf))
theorem Passp194 : Pur Go.Proofs.Tryz.prog GG0 266 Passa194 Passv194 :=
  chk_run (E := { E1 with tb := tbT Passt194 }) (fuel := 400000) (ex_ok [⟨333, Passa193, Passv193⟩, ⟨64, Passa140, Passv140⟩] (by kernel_rfl) ⟨Passp193, ⟨Passp140, trivial⟩⟩) (by kernel_rfl)
def Passt203 : TbT := .lf
theorem Passp203 : Pur Go.Proofs.Tryz.prog GG0 333 Passa203 Passv203 :=
  chk_run (E := { E1 with tb := tbT Passt203 }) (fuel := 400000) (ex_ok [] (by kernel_rfl) trivial) (by kernel_rfl)
def Passt204 : TbT := (.nd none (.nd none .lf (.nd none .lf (.nd none .lf (.nd none (.nd none (.nd none .lf (.nd none (.nd (some [(Passa203, Passv203)]) .lf .lf) .lf)) .lf) .lf)))) (.nd none (.nd none (.nd none (.nd none (.nd none (.nd (some [(Passa155, Passv155)]) .lf .lf) .lf) .lf) .lf) .lf) .lf))
theorem Passp204 : Pur Go.Proofs.Tryz.prog GG0 266 Passa204 Passv204 :=
  chk_run (E := { E1 with tb := tbT Passt204 }) (fuel := 400000) (ex_ok [⟨333, Passa203, Passv203⟩, ⟨64, Passa155, Passv155⟩] (by kernel_rfl) ⟨Passp203, ⟨Passp155, trivial⟩⟩) (by kernel_rfl)
def Passt205 : TbT := (.nd none .lf (.nd none .lf (.nd none (.nd none .lf (.nd none (.nd none (.nd none (.nd none (.nd (some [(Passa204, Passv204), (Passa194, Passv194), (Passa184, Passv184), (Passa174, Passv174)]) .lf .lf) .lf) .lf) .lf) .lf)) (.nd none (.nd none (.nd none (.nd none .lf (.nd (some [(Passa161, Passv161)]) .lf .lf)) .lf) .lf) .lf))))
theorem Passp205 : Pur Go.Proofs.Tryz.prog GG0 119 Passa205 Passv205 :=
  chk_run (E := { E1 with tb := tbT Passt205 }) (fuel := 400000) (ex_ok [⟨266, Passa204, Passv204⟩, ⟨266, Passa194, Passv194⟩, ⟨266, Passa184, Passv184⟩, ⟨266, Passa174, Passv174⟩, ⟨198, Passa161, Passv161⟩] (by kernel_rfl) ⟨Passp204, ⟨Passp194, ⟨Passp184, ⟨Passp174, ⟨Passp161, trivial⟩⟩⟩⟩⟩) (by kernel_rfl)
def Passt211 : TbT := .lf
theorem Passp211 : Pur Go.Proofs.Tryz.prog GG0 23 Passa211 Passv211 :=
  chk_run (E := { E1 with tb := tbT Passt211 }) (fuel := 400000) (ex_ok [] (by kernel_rfl) trivial) (by kernel_rfl)
end Go.Ab
