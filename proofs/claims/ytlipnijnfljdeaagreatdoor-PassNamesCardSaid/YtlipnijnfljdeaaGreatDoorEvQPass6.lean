/- Rows of the run, by the kernel. -/
import Derived.Test.YtlipnijnfljdeaaGreatDoorEvQPass1
import Derived.Test.YtlipnijnfljdeaaGreatDoorEvQPass2
import Derived.Test.YtlipnijnfljdeaaGreatDoorEvQPass4
import Derived.Test.YtlipnijnfljdeaaGreatDoorEvQPass5
import Derived.Test.YtlipnijnfljdeaaGreatDoorEvVPass
import Derived.KernelRfl
set_option maxRecDepth 1000000
namespace Go.Ab
def Passt293 : TbT := .lf
theorem Passp293 : Pur Go.Proofs.Tryz.prog GG0 38 Passa293 Passv293 :=
  chk_run (E := { E1 with tb := tbT Passt293 }) (fuel := 400000) (ex_ok [] (by kernel_rfl) trivial) (by kernel_rfl)
def Passt296 : TbT := (.nd none .lf (.nd none .lf (.nd none .lf (.nd none (.nd none (.nd (some [(Passa293, Passv293)]) .lf .lf) .lf) .lf))))
theorem Passp296 : Pur Go.Proofs.Tryz.prog GG0 33 Passa296 Passv296 :=
  chk_run (E := { E1 with tb := tbT Passt296 }) (fuel := 400000) (ex_ok [⟨38, Passa293, Passv293⟩] (by kernel_rfl) ⟨Passp293, trivial⟩) (by kernel_rfl)
def Passt304 : TbT := (.nd none (.nd none (.nd none (.nd none .lf (.nd (some [(Passa211, Passv211)]) .lf .lf)) .lf) .lf) .lf)
theorem Passp304 : Pur Go.Proofs.Tryz.prog GG0 101 Passa304 Passv304 :=
  chk_run (E := { E1 with tb := tbT Passt304 }) (fuel := 400000) (ex_ok [⟨23, Passa211, Passv211⟩] (by kernel_rfl) ⟨Passp211, trivial⟩) (by kernel_rfl)
def Passt311 : TbT := (.nd none (.nd none (.nd none (.nd none .lf (.nd (some [(Passa283, Passv283)]) .lf .lf)) .lf) .lf) .lf)
theorem Passp311 : Pur Go.Proofs.Tryz.prog GG0 101 Passa311 Passv311 :=
  chk_run (E := { E1 with tb := tbT Passt311 }) (fuel := 400000) (ex_ok [⟨23, Passa283, Passv283⟩] (by kernel_rfl) ⟨Passp283, trivial⟩) (by kernel_rfl)
def Passt316 : TbT := (.nd none (.nd none .lf (.nd none (.nd none (.nd none (.nd (some [(Passa296, Passv296)]) .lf .lf) (.nd none .lf (.nd none (.nd (some [(Passa286, Passv286)]) .lf .lf) .lf))) .lf) (.nd none (.nd none (.nd none .lf (.nd (some [(Passa304, Passv304), (Passa311, Passv311)]) .lf .lf)) .lf) .lf))) (.nd none (.nd none .lf (.nd none (.nd none (.nd none .lf (.nd (some [(Passa48, Passv48)]) .lf .lf)) .lf) .lf)) .lf))
theorem Passp316 : Pur Go.Proofs.Tryz.prog GG0 16 Passa316 Passv316 :=
  chk_run (E := { E1 with tb := tbT Passt316 }) (fuel := 400000) (ex_ok [⟨101, Passa304, Passv304⟩, ⟨101, Passa311, Passv311⟩, ⟨177, Passa286, Passv286⟩, ⟨100, Passa48, Passv48⟩, ⟨33, Passa296, Passv296⟩] (by kernel_rfl) ⟨Passp304, ⟨Passp311, ⟨Passp286, ⟨Passp48, ⟨Passp296, trivial⟩⟩⟩⟩⟩) (by kernel_rfl)
def Passt321 : TbT := (.nd none .lf (.nd none (.nd none (.nd none (.nd (some [(Passa316, Passv316)]) .lf .lf) .lf) .lf) (.nd (some [(Passa287, Passv287)]) .lf (.nd none (.nd none (.nd (some [(Passa293, Passv293)]) .lf .lf) .lf) .lf))))
theorem Passp321 : Pur Go.Proofs.Tryz.prog GG0 3 Passa321 Passv321 :=
  chk_run (E := { E1 with tb := tbT Passt321 }) (fuel := 400000) (ex_ok [⟨38, Passa293, Passv293⟩, ⟨16, Passa316, Passv316⟩, ⟨6, Passa287, Passv287⟩] (by kernel_rfl) ⟨Passp293, ⟨Passp316, ⟨Passp287, trivial⟩⟩⟩) (by kernel_rfl)
theorem law_passNames : Pur Go.Proofs.Tryz.prog GG0 3 [] (.c (.bool true)) := Passp321
end Go.Ab
