/- Rows of the run, by the kernel. -/
import Derived.Test.YtijmadhlpmikbaaGreatDoorEvVShadow
import Derived.KernelRfl
set_option maxRecDepth 1000000
namespace Go.Ab
def Shadowt403 : TbT := .lf
theorem Shadowp403 : Pur Go.Proofs.Tryz.prog GG0 66 Shadowa403 Shadowv403 :=
  chk_run (E := { E1 with tb := tbT Shadowt403 }) (fuel := 400000) (ex_ok [] (by kernel_rfl) trivial) (by kernel_rfl)
def Shadowt405 : TbT := (.nd none .lf (.nd none .lf (.nd none (.nd none (.nd none (.nd none (.nd (some [(Shadowa403, Shadowv403)]) .lf .lf) .lf) .lf) .lf) .lf)))
theorem Shadowp405 : Pur Go.Proofs.Tryz.prog GG0 34 Shadowa405 Shadowv405 :=
  chk_run (E := { E1 with tb := tbT Shadowt405 }) (fuel := 400000) (ex_ok [⟨66, Shadowa403, Shadowv403⟩] (by kernel_rfl) ⟨Shadowp403, trivial⟩) (by kernel_rfl)
def Shadowt413 : TbT := (.nd none .lf (.nd none .lf (.nd none (.nd none (.nd none (.nd (some [(Shadowa405, Shadowv405)]) .lf .lf) .lf) .lf) .lf)))
theorem Shadowp413 : Pur Go.Proofs.Tryz.prog GG0 42 Shadowa413 Shadowv413 :=
  chk_run (E := { E1 with tb := tbT Shadowt413 }) (fuel := 400000) (ex_ok [⟨34, Shadowa405, Shadowv405⟩] (by kernel_rfl) ⟨Shadowp405, trivial⟩) (by kernel_rfl)
def Shadowt415 : TbT := .lf
theorem Shadowp415 : Pur Go.Proofs.Tryz.prog GG0 66 Shadowa415 Shadowv415 :=
  chk_run (E := { E1 with tb := tbT Shadowt415 }) (fuel := 400000) (ex_ok [] (by kernel_rfl) trivial) (by kernel_rfl)
def Shadowt417 : TbT := (.nd none .lf (.nd none .lf (.nd none (.nd none (.nd none (.nd none (.nd (some [(Shadowa415, Shadowv415)]) .lf .lf) .lf) .lf) .lf) .lf)))
theorem Shadowp417 : Pur Go.Proofs.Tryz.prog GG0 34 Shadowa417 Shadowv417 :=
  chk_run (E := { E1 with tb := tbT Shadowt417 }) (fuel := 400000) (ex_ok [⟨66, Shadowa415, Shadowv415⟩] (by kernel_rfl) ⟨Shadowp415, trivial⟩) (by kernel_rfl)
def Shadowt423 : TbT := (.nd none .lf (.nd none .lf (.nd none (.nd none (.nd none (.nd (some [(Shadowa417, Shadowv417)]) .lf .lf) .lf) .lf) .lf)))
theorem Shadowp423 : Pur Go.Proofs.Tryz.prog GG0 42 Shadowa423 Shadowv423 :=
  chk_run (E := { E1 with tb := tbT Shadowt423 }) (fuel := 400000) (ex_ok [⟨34, Shadowa417, Shadowv417⟩] (by kernel_rfl) ⟨Shadowp417, trivial⟩) (by kernel_rfl)
def Shadowt425 : TbT := .lf
theorem Shadowp425 : Pur Go.Proofs.Tryz.prog GG0 66 Shadowa425 Shadowv425 :=
  chk_run (E := { E1 with tb := tbT Shadowt425 }) (fuel := 400000) (ex_ok [] (by kernel_rfl) trivial) (by kernel_rfl)
def Shadowt427 : TbT := (.nd none .lf (.nd none .lf (.nd none (.nd none (.nd none (.nd none (.nd (some [(Shadowa425, Shadowv425)]) .lf .lf) .lf) .lf) .lf) .lf)))
theorem Shadowp427 : Pur Go.Proofs.Tryz.prog GG0 34 Shadowa427 Shadowv427 :=
  chk_run (E := { E1 with tb := tbT Shadowt427 }) (fuel := 400000) (ex_ok [⟨66, Shadowa425, Shadowv425⟩] (by kernel_rfl) ⟨Shadowp425, trivial⟩) (by kernel_rfl)
def Shadowt432 : TbT := (.nd none .lf (.nd none .lf (.nd none (.nd none (.nd none (.nd (some [(Shadowa427, Shadowv427)]) .lf .lf) .lf) .lf) .lf)))
theorem Shadowp432 : Pur Go.Proofs.Tryz.prog GG0 42 Shadowa432 Shadowv432 :=
  chk_run (E := { E1 with tb := tbT Shadowt432 }) (fuel := 400000) (ex_ok [⟨34, Shadowa427, Shadowv427⟩] (by kernel_rfl) ⟨Shadowp427, trivial⟩) (by kernel_rfl)
def Shadowt434 : TbT := .lf
theorem Shadowp434 : Pur Go.Proofs.Tryz.prog GG0 66 Shadowa434 Shadowv434 :=
  chk_run (E := { E1 with tb := tbT Shadowt434 }) (fuel := 400000) (ex_ok [] (by kernel_rfl) trivial) (by kernel_rfl)
def Shadowt436 : TbT := (.nd none .lf (.nd none .lf (.nd none (.nd none (.nd none (.nd none (.nd (some [(Shadowa434, Shadowv434)]) .lf .lf) .lf) .lf) .lf) .lf)))
theorem Shadowp436 : Pur Go.Proofs.Tryz.prog GG0 34 Shadowa436 Shadowv436 :=
  chk_run (E := { E1 with tb := tbT Shadowt436 }) (fuel := 400000) (ex_ok [⟨66, Shadowa434, Shadowv434⟩] (by kernel_rfl) ⟨Shadowp434, trivial⟩) (by kernel_rfl)
def Shadowt440 : TbT := (.nd none .lf (.nd none .lf (.nd none (.nd none (.nd none (.nd (some [(Shadowa436, Shadowv436)]) .lf .lf) .lf) .lf) .lf)))
theorem Shadowp440 : Pur Go.Proofs.Tryz.prog GG0 42 Shadowa440 Shadowv440 :=
  chk_run (E := { E1 with tb := tbT Shadowt440 }) (fuel := 400000) (ex_ok [⟨34, Shadowa436, Shadowv436⟩] (by kernel_rfl) ⟨Shadowp436, trivial⟩) (by kernel_rfl)
def Shadowt441 : TbT := (.nd none .lf (.nd none .lf (.nd none (.nd none .lf (.nd none (.nd (some [(Shadowa440, Shadowv440), (Shadowa432, Shadowv432), (Shadowa423, Shadowv423), (Shadowa413, Shadowv413)]) .lf .lf) .lf)) .lf)))
theorem Shadowp441 : Pur Go.Proofs.Tryz.prog GG0 20 Shadowa441 Shadowv441 :=
  chk_run (E := { E1 with tb := tbT Shadowt441 }) (fuel := 400000) (ex_ok [⟨42, Shadowa440, Shadowv440⟩, ⟨42, Shadowa432, Shadowv432⟩, ⟨42, Shadowa423, Shadowv423⟩, ⟨42, Shadowa413, Shadowv413⟩] (by kernel_rfl) ⟨Shadowp440, ⟨Shadowp432, ⟨Shadowp423, ⟨Shadowp413, trivial⟩⟩⟩⟩) (by kernel_rfl)
end Go.Ab
