/- Rows of the run, by the kernel. -/
import Derived.Test.YtkgmagigahefjaaGreatDoorEvQHeal1
import Derived.Test.YtkgmagigahefjaaGreatDoorEvVHeal
import Derived.KernelRfl
set_option maxRecDepth 1000000
namespace Go.Ab
def Healt372 : TbT := (.nd none (.nd none (.nd none (.nd none .lf (.nd none (.nd (some [(Heala182, Healv182)]) .lf .lf) .lf)) (.nd none (.nd none .lf (.nd (some [(Heala202, Healv202)]) .lf .lf)) .lf)) .lf) .lf)
theorem Healp372 : Pur Go.Proofs.Tryz.prog GG0 12 Heala372 Healv372 :=
  chk_run (E := { E1 with tb := tbT Healt372 }) (fuel := 400000) (ex_ok [⟨51, Heala202, Healv202⟩, ⟨39, Heala182, Healv182⟩] (by kernel_rfl) ⟨Healp202, ⟨Healp182, trivial⟩⟩) (by kernel_rfl)
def Healt374 : TbT := (.nd none (.nd none (.nd none (.nd none .lf (.nd none (.nd (some [(Heala182, Healv182)]) .lf .lf) .lf)) .lf) .lf) (.nd none (.nd (some [(Heala203, Healv203)]) .lf (.nd (some [(Heala372, Healv372)]) (.nd (some [(Heala176, Healv176)]) .lf .lf) .lf)) .lf))
theorem Healp374 : Pur Go.Proofs.Tryz.prog GG0 6 Heala374 Healv374 :=
  chk_run (E := { E1 with tb := tbT Healt374 }) (fuel := 400000) (ex_ok [⟨12, Heala372, Healv372⟩, ⟨4, Heala203, Healv203⟩, ⟨39, Heala182, Healv182⟩, ⟨20, Heala176, Healv176⟩] (by kernel_rfl) ⟨Healp372, ⟨Healp203, ⟨Healp182, ⟨Healp176, trivial⟩⟩⟩⟩) (by kernel_rfl)
def Healt375 : TbT := (.nd none .lf (.nd none .lf (.nd (some [(Heala374, Healv374)]) .lf .lf)))
theorem Healp375 : Pur Go.Proofs.Tryz.prog GG0 3 Heala375 Healv375 :=
  chk_run (E := { E1 with tb := tbT Healt375 }) (fuel := 400000) (ex_ok [⟨6, Heala374, Healv374⟩] (by kernel_rfl) ⟨Healp374, trivial⟩) (by kernel_rfl)
theorem law_healNames : Pur Go.Proofs.Tryz.prog GG0 3 [] (.c (.bool true)) := Healp375
end Go.Ab
