/- Rows of the run, by the kernel. -/
import Derived.Test.YtlipnijnfljdeaaGreatDoorEvVPass
import Derived.KernelRfl
set_option maxRecDepth 1000000
namespace Go.Ab
def Passt37 : TbT := .lf
theorem Passp37 : Pur Go.Proofs.Tryz.prog GG0 38 Passa37 Passv37 :=
  chk_run (E := { E1 with tb := tbT Passt37 }) (fuel := 400000) (ex_ok [] (by kernel_rfl) trivial) (by kernel_rfl)
def Passt40 : TbT := (.nd none .lf (.nd none .lf (.nd none .lf (.nd none (.nd none (.nd (some [(Passa37, Passv37)]) .lf .lf) .lf) .lf))))
theorem Passp40 : Pur Go.Proofs.Tryz.prog GG0 33 Passa40 Passv40 :=
  chk_run (E := { E1 with tb := tbT Passt40 }) (fuel := 400000) (ex_ok [⟨38, Passa37, Passv37⟩] (by kernel_rfl) ⟨Passp37, trivial⟩) (by kernel_rfl)
def Passt48 : TbT := .lf
theorem Passp48 : Pur Go.Proofs.Tryz.prog GG0 100 Passa48 Passv48 :=
  chk_run (E := { E1 with tb := tbT Passt48 }) (fuel := 400000) (ex_ok [] (by kernel_rfl) trivial) (by kernel_rfl)
def Passt53 : TbT := (.nd none (.nd none .lf (.nd none (.nd none (.nd none (.nd (some [(Passa40, Passv40)]) .lf .lf) .lf) .lf) .lf)) (.nd none (.nd none .lf (.nd none (.nd none (.nd none .lf (.nd (some [(Passa48, Passv48)]) .lf .lf)) .lf) .lf)) .lf))
theorem Passp53 : Pur Go.Proofs.Tryz.prog GG0 16 Passa53 Passv53 :=
  chk_run (E := { E1 with tb := tbT Passt53 }) (fuel := 400000) (ex_ok [⟨100, Passa48, Passv48⟩, ⟨33, Passa40, Passv40⟩] (by kernel_rfl) ⟨Passp48, ⟨Passp40, trivial⟩⟩) (by kernel_rfl)
def Passt58 : TbT := (.nd none .lf (.nd none .lf (.nd none .lf (.nd none (.nd none (.nd (some [(Passa37, Passv37)]) .lf .lf) .lf) .lf))))
theorem Passp58 : Pur Go.Proofs.Tryz.prog GG0 17 Passa58 Passv58 :=
  chk_run (E := { E1 with tb := tbT Passt58 }) (fuel := 400000) (ex_ok [⟨38, Passa37, Passv37⟩] (by kernel_rfl) ⟨Passp37, trivial⟩) (by kernel_rfl)
def Passt61 : TbT := .lf
theorem Passp61 : Pur Go.Proofs.Tryz.prog GG0 271 Passa61 Passv61 :=
  chk_run (E := { E1 with tb := tbT Passt61 }) (fuel := 400000) (ex_ok [] (by kernel_rfl) trivial) (by kernel_rfl)
def Passt66 : TbT := (.nd none (.nd none (.nd none (.nd none (.nd none .lf (.nd none (.nd none (.nd none (.nd (some [(Passa61, Passv61)]) .lf .lf) .lf) .lf) .lf)) .lf) .lf) .lf) .lf)
theorem Passp66 : Pur Go.Proofs.Tryz.prog GG0 206 Passa66 Passv66 :=
  chk_run (E := { E1 with tb := tbT Passt66 }) (fuel := 400000) (ex_ok [⟨271, Passa61, Passv61⟩] (by kernel_rfl) ⟨Passp61, trivial⟩) (by kernel_rfl)
def Passt103 : TbT := .lf
theorem Passp103 : Pur Go.Proofs.Tryz.prog GG0 132 Passa103 Passv103 :=
  chk_run (E := { E1 with tb := tbT Passt103 }) (fuel := 400000) (ex_ok [] (by kernel_rfl) trivial) (by kernel_rfl)
def Passt105 : TbT := (.nd none .lf (.nd none (.nd none .lf (.nd none (.nd none (.nd none (.nd none (.nd (some [(Passa103, Passv103)]) .lf .lf) .lf) .lf) .lf) .lf)) .lf))
theorem Passp105 : Pur Go.Proofs.Tryz.prog GG0 64 Passa105 Passv105 :=
  chk_run (E := { E1 with tb := tbT Passt105 }) (fuel := 400000) (ex_ok [⟨132, Passa103, Passv103⟩] (by kernel_rfl) ⟨Passp103, trivial⟩) (by kernel_rfl)
def Passt115 : TbT := (.nd none .lf (.nd none (.nd none (.nd none (.nd none (.nd none (.nd (some [(Passa105, Passv105)]) .lf .lf) .lf) .lf) .lf) .lf) .lf))
theorem Passp115 : Pur Go.Proofs.Tryz.prog GG0 264 Passa115 Passv115 :=
  chk_run (E := { E1 with tb := tbT Passt115 }) (fuel := 400000) (ex_ok [⟨64, Passa105, Passv105⟩] (by kernel_rfl) ⟨Passp105, trivial⟩) (by kernel_rfl)
def Passt123 : TbT := .lf
theorem Passp123 : Pur Go.Proofs.Tryz.prog GG0 132 Passa123 Passv123 :=
  chk_run (E := { E1 with tb := tbT Passt123 }) (fuel := 400000) (ex_ok [] (by kernel_rfl) trivial) (by kernel_rfl)
def Passt125 : TbT := (.nd none .lf (.nd none (.nd none .lf (.nd none (.nd none (.nd none (.nd none (.nd (some [(Passa123, Passv123)]) .lf .lf) .lf) .lf) .lf) .lf)) .lf))
theorem Passp125 : Pur Go.Proofs.Tryz.prog GG0 64 Passa125 Passv125 :=
  chk_run (E := { E1 with tb := tbT Passt125 }) (fuel := 400000) (ex_ok [⟨132, Passa123, Passv123⟩] (by kernel_rfl) ⟨Passp123, trivial⟩) (by kernel_rfl)
def Passt130 : TbT := (.nd none .lf (.nd none (.nd none (.nd none (.nd none (.nd none (.nd (some [(Passa125, Passv125)]) .lf .lf) .lf) .lf) .lf) .lf) .lf))
theorem Passp130 : Pur Go.Proofs.Tryz.prog GG0 264 Passa130 Passv130 :=
  chk_run (E := { E1 with tb := tbT Passt130 }) (fuel := 400000) (ex_ok [⟨64, Passa125, Passv125⟩] (by kernel_rfl) ⟨Passp125, trivial⟩) (by kernel_rfl)
def Passt138 : TbT := .lf
theorem Passp138 : Pur Go.Proofs.Tryz.prog GG0 132 Passa138 Passv138 :=
  chk_run (E := { E1 with tb := tbT Passt138 }) (fuel := 400000) (ex_ok [] (by kernel_rfl) trivial) (by kernel_rfl)
def Passt140 : TbT := (.nd none .lf (.nd none (.nd none .lf (.nd none (.nd none (.nd none (.nd none (.nd (some [(Passa138, Passv138)]) .lf .lf) .lf) .lf) .lf) .lf)) .lf))
theorem Passp140 : Pur Go.Proofs.Tryz.prog GG0 64 Passa140 Passv140 :=
  chk_run (E := { E1 with tb := tbT Passt140 }) (fuel := 400000) (ex_ok [⟨132, Passa138, Passv138⟩] (by kernel_rfl) ⟨Passp138, trivial⟩) (by kernel_rfl)
def Passt145 : TbT := (.nd none .lf (.nd none (.nd none (.nd none (.nd none (.nd none (.nd (some [(Passa140, Passv140)]) .lf .lf) .lf) .lf) .lf) .lf) .lf))
theorem Passp145 : Pur Go.Proofs.Tryz.prog GG0 264 Passa145 Passv145 :=
  chk_run (E := { E1 with tb := tbT Passt145 }) (fuel := 400000) (ex_ok [⟨64, Passa140, Passv140⟩] (by kernel_rfl) ⟨Passp140, trivial⟩) (by kernel_rfl)
end Go.Ab
